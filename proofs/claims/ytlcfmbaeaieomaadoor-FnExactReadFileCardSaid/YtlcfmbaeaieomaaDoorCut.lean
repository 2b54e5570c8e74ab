/- Texts that are cut at a byte. -/
import Derived.Test.YtlcfmbaeaieomaaDoorText
import Derived.Test.YtlcfmbaeaieomaaDoorSplit
import Derived.Test.YtlcfmbaeaieomaaDoorPure1
import Derived.Lib.SplitLaws
import Derived.Lib.IndexBytes
namespace Go.AW
open Go
set_option linter.unusedVariables false

def str1 (s : ByteArray) : List Value := [.string s]
theorem str1_len (x : ByteArray) : (str1 x).length = 1 := rfl
theorem str1_plain (x : ByteArray) : (str1 x).all plain1 = true := rfl
theorem fl_str1 (l : List ByteArray) : fl str1 l = l.map Value.string := by
  induction l with
  | nil => rfl
  | cons a l ih => rw [fl_cons, ih]; rfl
theorem u8_eq {b c : UInt8} : ((b.toNat : Int) = (c.toNat : Int)) ↔ b = c := ⟨fun h => UInt8.toNat_inj.mp (by omega), fun h => by rw [h]⟩
theorem u8_is {b k : UInt8} {n : Int} (h : (b.toNat : Int) = n) (e : n = (k.toNat : Int)) : b = k := u8_eq.mp (h.trans e)
theorem toL_inj {p q : ByteArray} (h : p.toList = q.toList) : p = q := by
  rw [Go.ByteArray.toList_eq, Go.ByteArray.toList_eq] at h
  exact ByteArray.ext (Array.toList_inj.mp h)
theorem empty_size {p : ByteArray} (h : p.toList = (⟨#[]⟩ : ByteArray).toList) : p.size = 0 := by rw [toL_inj h]; rfl
theorem subN {n h : Nat} (e : n = h + 1) (hb : n < 4611686018427387904) : Value.int .i64 (IntKind.i64.wrap ((n : Int) - 1)) = .int .i64 ((h : Nat) : Int) := by
  subst e; exact sub1 h (by omega)
theorem minN {a b : Nat} {z : Int} (e : z = (b : Int)) : ∃ m : Nat, Value.int .i64 (if z < (a : Int) then z else (a : Int)) = .int .i64 (m : Int) ∧ m ≤ a ∧ m ≤ b ∧ (m = a ∨ m = b) := by
  subst e
  by_cases h : (b : Int) < (a : Int)
  · exact ⟨b, by rw [if_pos h], by omega, Nat.le_refl _, .inr rfl⟩
  · exact ⟨a, by rw [if_neg h], Nat.le_refl _, by omega, .inl rfl⟩
def cutL (c : UInt8) : List UInt8 → List (List UInt8)
  | [] => [[]]
  | b :: l => if b = c then [] :: cutL c l else (b :: (cutL c l).headD []) :: (cutL c l).tail
theorem cutL_miss {c : UInt8} : ∀ {p : List UInt8}, c ∉ p → cutL c p = [p]
  | [], _ => rfl
  | b :: p, h => by
    have h1 : b ≠ c := fun e => h (e ▸ List.mem_cons_self)
    have h2 := cutL_miss (p := p) (fun e => h (List.mem_cons_of_mem _ e))
    rw [cutL, if_neg h1, h2]; rfl
theorem cutL_hit {c : UInt8} : ∀ {p l : List UInt8}, c ∉ p → cutL c (p ++ c :: l) = p :: cutL c l
  | [], l, _ => by rw [List.nil_append, cutL, if_pos rfl]
  | b :: p, l, h => by
    have h1 : b ≠ c := fun e => h (e ▸ List.mem_cons_self)
    have h2 := cutL_hit (p := p) (l := l) (fun e => h (List.mem_cons_of_mem _ e))
    rw [List.cons_append, cutL, if_neg h1, h2]; rfl
theorem cutL_join (c : UInt8) : ∀ l : List UInt8, ∃ ps p, cutL c l = ps ++ [p] ∧ l = ps.flatMap (fun q => q ++ [c]) ++ p ∧ (∀ q ∈ ps, c ∉ q) ∧ c ∉ p
  | [] => ⟨[], [], rfl, rfl, by simp, by simp⟩
  | b :: l => by
    obtain ⟨ps, p, h1, h2, h3, h4⟩ := cutL_join c l
    by_cases h : b = c
    · subst h
      refine ⟨[] :: ps, p, by rw [cutL, if_pos rfl, h1]; rfl, ?_, ?_, h4⟩
      · rw [List.flatMap_cons, List.nil_append, List.append_assoc, ← h2]; rfl
      · intro q hq
        rcases List.mem_cons.mp hq with rfl | hq
        · simp
        · exact h3 q hq
    · rw [cutL, if_neg h, h1]
      have hbc : ∀ q : List UInt8, c ∉ q → c ∉ b :: q := fun q hq e => by
        rcases List.mem_cons.mp e with e | e
        · exact h e.symm
        · exact hq e
      cases ps with
      | nil => exact ⟨[], b :: p, rfl, by rw [h2]; rfl, by simp, hbc p h4⟩
      | cons q ps =>
        refine ⟨(b :: q) :: ps, p, rfl, by rw [h2]; simp, ?_, h4⟩
        intro x hx
        rcases List.mem_cons.mp hx with rfl | hx
        · exact hbc q (h3 q (by simp))
        · exact h3 x (by simp [hx])
theorem cutL_rows {α : Type} {c : UInt8} {L : α → List UInt8} {last : List UInt8} (hl : c ∉ last) : ∀ ks : List α, (∀ k ∈ ks, c ∉ L k) → cutL c (ks.flatMap (fun k => L k ++ [c]) ++ last) = ks.map L ++ [last]
  | [], _ => cutL_miss hl
  | k :: ks, h => by
    rw [List.flatMap_cons, List.append_assoc, List.append_assoc]
    show cutL c (L k ++ c :: (_ ++ last)) = _
    rw [cutL_hit (h k (by simp)), cutL_rows hl ks fun x hx => h x (by simp [hx])]; rfl
theorem indexByte_miss {c : UInt8} : ∀ {l : List UInt8}, c ∉ l → Lib.indexByte l c = -1
  | [], _ => rfl
  | b :: l, h => by
    have h1 : b ≠ c := fun e => h (e ▸ List.mem_cons_self)
    have h2 := indexByte_miss (l := l) (fun e => h (List.mem_cons_of_mem _ e))
    rw [Lib.indexByte, if_neg (by simpa using h1), h2]; rfl
theorem indexByte_hit {c : UInt8} : ∀ {p l : List UInt8}, c ∉ p → Lib.indexByte (p ++ c :: l) c = (p.length : Int)
  | [], l, _ => by rw [List.nil_append, Lib.indexByte, if_pos (by simp)]; rfl
  | b :: p, l, h => by
    have h1 : b ≠ c := fun e => h (e ▸ List.mem_cons_self)
    have h2 := indexByte_hit (p := p) (l := l) (fun e => h (List.mem_cons_of_mem _ e))
    rw [List.cons_append, Lib.indexByte, if_neg (by simpa using h1), h2, if_neg (by rw [beq_iff_eq]; omega), List.length_cons]; omega
theorem splitK_cut {c : UInt8} : ∀ (n : Nat) (l : List UInt8), l.length ≤ n → Lib.splitK [c] 0 (Lib.count l [c]) l = cutL c l := by
  intro n
  induction n with
  | zero =>
    intro l hl
    obtain rfl := List.eq_nil_of_length_eq_zero (by omega : l.length = 0)
    rfl
  | succ n ih =>
    intro l hl
    by_cases h : c ∈ l
    · obtain ⟨p, r, rfl, hp⟩ := List.eq_append_cons_of_mem h
      have hi : Lib.index (p ++ c :: r) [c] = (p.length : Int) := by rw [Lib.index_one]; exact indexByte_hit hp
      have hd : (p ++ c :: r).drop (p.length + [c].length) = r := by
        rw [show p ++ c :: r = (p ++ [c]) ++ r by simp]; exact List.drop_left' (by simp)
      rw [Lib.count_hit (by simp) hi, hd, Nat.add_comm, Lib.splitK, if_neg (by rw [hi, beq_iff_eq]; omega), hi, Int.toNat_natCast, hd, cutL_hit hp]
      rw [ih r (by simp at hl; omega)]
      congr 1
      rw [Nat.add_zero]; exact List.take_left' rfl
    · have hi : Lib.index l [c] = -1 := by rw [Lib.index_one]; exact indexByte_miss h
      rw [Lib.count_miss hi, cutL_miss h]; rfl
/-- A text's pieces. -/
def ofL (l : List UInt8) : ByteArray := ⟨l.toArray⟩
theorem ofL_data (l : List UInt8) : (ofL l).data.toList = l := rfl
theorem ofL_of (t : ByteArray) : ofL t.data.toList = t := by cases t; rfl
theorem ofL_inj {l m : List UInt8} (h : ofL l = ofL m) : l = m := by rw [← ofL_data l, h]; rfl
def pcs (c : UInt8) (t : ByteArray) : List ByteArray := (cutL c t.data.toList).map ofL
theorem splitB_pcs (c : UInt8) (t : ByteArray) : Lib.splitB ⟨#[c]⟩ 0 (Lib.countB t ⟨#[c]⟩) t = pcs c t := by
  have h := Lib.splitB_data ⟨#[c]⟩ 0 (Lib.countB t ⟨#[c]⟩) t
  have h2 := splitK_cut (c := c) _ t.data.toList (Nat.le_refl _)
  have h3 : (Lib.splitB ⟨#[c]⟩ 0 (Lib.countB t ⟨#[c]⟩) t).map (·.data.toList) = cutL c t.data.toList := h.trans h2
  unfold pcs
  rw [← h3, List.map_map]
  exact (List.map_id'' (fun x => ofL_of x) _).symm
theorem countB_pcs (c : UInt8) (t : ByteArray) : Lib.countB t ⟨#[c]⟩ + 1 = (pcs c t).length := by
  rw [← splitB_pcs, Lib.splitB_all ⟨#[c]⟩ (Nat.le_refl 1) 0 _ t rfl]
theorem cutL_pos (c : UInt8) (l : List UInt8) : 0 < (cutL c l).length := by
  obtain ⟨ps, p, h, _⟩ := cutL_join c l; rw [h]; simp
theorem pcs_pos (c : UInt8) (t : ByteArray) : 0 < (pcs c t).length := by unfold pcs; rw [List.length_map]; exact cutL_pos _ _
theorem pcs_size (c : UInt8) (t : ByteArray) : ∀ {i : Nat} {p : ByteArray}, (pcs c t)[i]? = some p → p.size ≤ t.size := by
  intro i p h
  obtain ⟨ps, q, h1, h2, _⟩ := cutL_join c t.data.toList
  have hm : p.data.toList ∈ cutL c t.data.toList := by
    unfold pcs at h
    rw [List.getElem?_map] at h
    cases hx : (cutL c t.data.toList)[i]? with
    | none => rw [hx] at h; cases h
    | some x => rw [hx] at h; cases h; exact List.mem_of_getElem? hx
  have hsz : ∀ (s : ByteArray), s.size = s.data.toList.length := fun s => by cases s; simp [ByteArray.size]
  rw [hsz, hsz]
  have key : ∀ (ps : List (List UInt8)) (x : List UInt8), x ∈ ps → x.length ≤ (ps.flatMap (fun q => q ++ [c])).length := by
    intro ps
    induction ps with
    | nil => intro x hx; cases hx
    | cons a ps ih =>
      intro x hx
      rw [List.flatMap_cons, List.length_append, List.length_append]
      rcases List.mem_cons.mp hx with rfl | hx
      · omega
      · have := ih x hx; omega
  rw [h1] at hm
  have hlen : t.data.toList.length = (ps.flatMap (fun q => q ++ [c])).length + q.length := by rw [← List.length_append, ← h2]
  rcases List.mem_append.mp hm with hm | hm
  · have := key ps _ hm; omega
  · rw [List.mem_singleton.mp hm]; omega
theorem cutL_le (c : UInt8) (l : List UInt8) : (cutL c l).length ≤ l.length + 1 := by
  induction l with
  | nil => exact Nat.le_refl _
  | cons b l ih =>
    have := cutL_pos c l
    rw [cutL]
    split
    · simp; omega
    · simp; omega
theorem ba_size (s : ByteArray) : s.size = s.data.toList.length := by cases s; simp [ByteArray.size]
theorem pcs_len (c : UInt8) (t : ByteArray) : (pcs c t).length ≤ t.size + 1 := by unfold pcs; rw [List.length_map, ba_size]; exact cutL_le _ _
theorem ba_get (t : ByteArray) (i : Nat) : t[i]? = t.data.toList[i]? := by
  by_cases h : i < t.size
  · rw [getElem?_pos t i h, List.getElem?_eq_getElem (by rw [← ba_size]; exact h)]; rfl
  · rw [getElem?_neg t i h, List.getElem?_eq_none (by rw [← ba_size]; omega)]
theorem strAt {t : ByteArray} {i : Nat} (h : i < t.size) : ∃ b, t[i]? = some b := ⟨t[i], by rw [getElem?_pos t i h]⟩
theorem ba_none {t : ByteArray} {i : Nat} (h : t.size ≤ i) : t[i]? = none := getElem?_neg t i (by omega)
theorem extract_toL (t : ByteArray) (a b : Nat) : (t.extract a b).data.toList = (t.data.toList.take b).drop a := by
  rw [ByteArray.data_extract, Array.toList_extract, List.extract_eq_take_drop, List.drop_take]

/-- What a walk that cuts a text byte by byte knows: the pieces so far, and where the next one begins. -/
def cutTo (c : UInt8) (t : ByteArray) (out : List ByteArray) (b i : Nat) : Prop :=
  b ≤ i ∧ i ≤ t.size ∧ out ++ (cutL c (t.data.toList.drop b)).map ofL = pcs c t ∧ c ∉ (t.data.toList.take i).drop b
theorem cutTo_init (c : UInt8) (t : ByteArray) : cutTo c t [] 0 0 := ⟨Nat.le_refl _, Nat.zero_le _, rfl, by simp⟩
theorem cutTo_hit {c : UInt8} {t : ByteArray} {out : List ByteArray} {b i : Nat} (h : cutTo c t out b i) (hi : t[i]? = some c) : cutTo c t (out ++ [t.extract b i]) (i + 1) (i + 1) := by
  obtain ⟨h1, h2, h3, h4⟩ := h
  rw [ba_get] at hi
  have hlt := (List.getElem?_eq_some_iff.mp hi).1
  refine ⟨Nat.le_refl _, by rw [ba_size]; omega, ?_, by simp⟩
  have e : t.data.toList.drop b = (t.data.toList.take i).drop b ++ c :: t.data.toList.drop (i + 1) := by
    have e1 : t.data.toList.drop i = c :: t.data.toList.drop (i + 1) := by
      obtain ⟨hl, he⟩ := List.getElem?_eq_some_iff.mp hi
      rw [List.drop_eq_getElem_cons hl, he]
    have e2 : t.data.toList = t.data.toList.take i ++ t.data.toList.drop i := (List.take_append_drop i _).symm
    conv => lhs; rw [e2]
    rw [List.drop_append_of_le_length (by rw [List.length_take]; omega), e1]
  rw [e, cutL_hit h4] at h3
  rw [List.append_assoc, ← h3, List.map_cons]
  congr 1
  show _ :: _ = _ :: _
  congr 1
  rw [← ofL_of (t.extract b i), extract_toL]
theorem cutTo_miss {c d : UInt8} {t : ByteArray} {out : List ByteArray} {b i : Nat} (h : cutTo c t out b i) (hi : t[i]? = some d) (hd : d ≠ c) : cutTo c t out b (i + 1) := by
  obtain ⟨h1, h2, h3, h4⟩ := h
  rw [ba_get] at hi
  have hlt := (List.getElem?_eq_some_iff.mp hi).1
  refine ⟨by omega, by rw [ba_size]; omega, h3, ?_⟩
  rw [List.take_add_one, hi, List.drop_append_of_le_length (by rw [List.length_take]; omega)]
  intro e
  rcases List.mem_append.mp e with e | e
  · exact h4 e
  · simp at e; exact hd e.symm
theorem cutTo_end {c : UInt8} {t : ByteArray} {out : List ByteArray} {b : Nat} (h : cutTo c t out b t.size) : out ++ [t.extract b t.size] = pcs c t := by
  obtain ⟨h1, _, h3, h4⟩ := h
  rw [ba_size, List.take_length] at h4
  rw [cutL_miss h4] at h3
  rw [← h3, List.map_singleton]
  congr 2
  rw [← ofL_of (t.extract b t.size), extract_toL, ba_size, List.take_length]
theorem cutTo_len {c : UInt8} {t : ByteArray} {out : List ByteArray} {b i : Nat} (h : cutTo c t out b i) : out.length ≤ t.size := by
  have h1 := congrArg List.length h.2.2.1
  have h2 := pcs_len c t
  have h3 := cutL_pos c (t.data.toList.drop b)
  rw [List.length_append, List.length_map] at h1
  omega
end Go.AW
