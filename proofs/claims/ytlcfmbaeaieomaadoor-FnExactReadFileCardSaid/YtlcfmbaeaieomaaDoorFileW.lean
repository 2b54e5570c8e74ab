/- The words of a file's text. -/
import Derived.Test.YtlcfmbaeaieomaaDoorFileR
namespace Go.AW
open Go
set_option linter.unusedVariables false

theorem pcs_data {c : UInt8} {t : ByteArray} {i : Nat} {p : ByteArray} (h : (pcs c t)[i]? = some p) : (cutL c t.data.toList)[i]? = some p.data.toList := by
  unfold pcs at h
  rw [List.getElem?_map] at h
  cases hx : (cutL c t.data.toList)[i]? with
  | none => rw [hx] at h; cases h
  | some x => rw [hx] at h; cases h; rfl
theorem pcs_one {c : UInt8} {t p : ByteArray} (hl : (pcs c t).length = 1) (h0 : (pcs c t)[0]? = some p) : t.data.toList = p.data.toList := by
  obtain ⟨ps, q, h1, h2, _⟩ := cutL_join c t.data.toList
  have hlen : (cutL c t.data.toList).length = 1 := by unfold pcs at hl; rwa [List.length_map] at hl
  rw [h1] at hlen
  obtain rfl : ps = [] := List.eq_nil_of_length_eq_zero (by simpa using hlen)
  have := pcs_data h0
  rw [h1] at this
  simp at this
  rw [h2, ← this]; rfl
theorem pcs_two {c : UInt8} {t p q : ByteArray} (hl : (pcs c t).length = 2) (h0 : (pcs c t)[0]? = some p) (h1 : (pcs c t)[1]? = some q) : t.data.toList = p.data.toList ++ c :: q.data.toList := by
  obtain ⟨ps, z, k1, k2, _⟩ := cutL_join c t.data.toList
  have hlen : (cutL c t.data.toList).length = 2 := by unfold pcs at hl; rwa [List.length_map] at hl
  rw [k1] at hlen
  match ps, hlen with
  | [a], _ =>
    have e0 := pcs_data h0
    have e1 := pcs_data h1
    rw [k1] at e0 e1
    simp at e0 e1
    rw [k2, ← e0, ← e1]; simp
  | [], hlen => simp at hlen
  | a :: b :: ps, hlen => simp at hlen
theorem hd_pcs {l : List Spot} (h : inB (at_ l 0)) : pcs 44 (ofL (hd8 l)) = [strOf [48 + (at_ l 0).x], strOf [48 + (at_ l 0).y]] := by
  obtain ⟨_, h1, h2⟩ := hd_no h
  unfold pcs
  rw [ofL_data, hd8, cutL_hit h1, cutL_miss h2, List.map_cons, List.map_cons, List.map_nil, ofL_of, ofL_of]
theorem at_inB {l : List Spot} (h : plainF l) : inB (at_ l 0) := by
  obtain ⟨x, hx⟩ := get_lt (show 0 < l.length by have := h.1.2.1; omega)
  rw [at_get hx]; exact h.2 0 x hx
/-- The words of a file's text. -/
theorem file_words {l : List Spot} {t : ByteArray} (h : plainF l) (hq : fileTx l = t) :
    ((pcs 32 t).length = 1 ∧ l.length = 1 ∧ (pcs 32 t)[0]? = some (ofL (hd8 l))) ∨ ((pcs 32 t).length = 2 ∧ 2 ≤ l.length ∧ (pcs 32 t)[0]? = some (ofL (hd8 l)) ∧ (pcs 32 t)[1]? = some (ofL (ls8 l))) := by
  have hd := fileTx_data l
  rw [hq] at hd
  have hn := (hd_no (at_inB h)).1
  have h1 := h.1.2.1
  by_cases hz : l.length - 1 = 0
  · rw [if_pos hz, List.append_nil] at hd
    have : pcs 32 t = [ofL (hd8 l)] := by unfold pcs; rw [hd, cutL_miss hn]; rfl
    exact .inl ⟨by rw [this]; rfl, by omega, by rw [this]; rfl⟩
  · rw [if_neg hz] at hd
    have : pcs 32 t = [ofL (hd8 l), ofL (ls8 l)] := by unfold pcs; rw [hd, cutL_hit hn, cutL_miss (ls_no l)]; rfl
    exact .inr ⟨by rw [this]; rfl, by omega, by rw [this]; rfl, by rw [this]; rfl⟩
/-- The same by strings.Cut. -/
theorem file_cut {l : List Spot} {t : ByteArray} (h : plainF l) (hq : fileTx l = t) :
    cutY 32 t = ofL (hd8 l) ∧ cutZ 32 t = ofL (ls8 l) ∧ cutY 44 (cutY 32 t) = strOf [48 + (at_ l 0).x] ∧ cutZ 44 (cutY 32 t) = strOf [48 + (at_ l 0).y] := by
  have hd := fileTx_data l
  rw [hq] at hd
  obtain ⟨hn, h1, _⟩ := hd_no (at_inB h)
  have key : cutY 32 t = ofL (hd8 l) ∧ cutZ 32 t = ofL (ls8 l) := by
    by_cases hz : l.length - 1 = 0
    · rw [if_pos hz, List.append_nil] at hd
      obtain ⟨a, b⟩ := cut_miss (s := t) (c := 32) (by rw [hd]; exact hn)
      refine ⟨a.trans (ofL_eq hd), b.trans ?_⟩
      have : ls8 l = [] := List.eq_nil_of_length_eq_zero (by rw [ls8_len]; exact hz)
      rw [this]; rfl
    · rw [if_neg hz] at hd
      exact cut_hit hd hn
  refine ⟨key.1, key.2, ?_⟩
  rw [key.1]
  have e : (ofL (hd8 l)).data.toList = (strOf [48 + (at_ l 0).x]).data.toList ++ 44 :: (strOf [48 + (at_ l 0).y]).data.toList := rfl
  obtain ⟨a, b⟩ := cut_hit e h1
  rw [ofL_of] at a b
  exact ⟨a, b⟩
/-- What the reference has read is what stands there. -/
theorem read_text {t p0 px py w : ByteArray} {a b : Int} (h0 : (pcs 32 t)[0]? = some p0) (hw : ((pcs 32 t).length = 1 ∧ w = ⟨#[]⟩) ∨ ((pcs 32 t).length = 2 ∧ (pcs 32 t)[1]? = some w ∧ 0 < w.size))
    (hl : (pcs 44 p0).length = 2) (hx : (pcs 44 p0)[0]? = some px) (hy : (pcs 44 p0)[1]? = some py) (ex : px = strOf [48 + a]) (ey : py = strOf [48 + b]) (ha : 0 ≤ a ∧ a ≤ 9) (hb : 0 ≤ b ∧ b ≤ 9)
    (hv : ∀ i c, i < w.size → w[i]? = some c → 0 ≤ lt4 c) : fileTx (pathTo ⟨a, b⟩ w w.size) = t := by
  have e0 := pcs_two hl hx hy
  have ht := path_text (s0 := ⟨a, b⟩) (w := w) (n := w.size) ⟨⟨by show (-128 : Int) ≤ a; omega, by show a ≤ (127 : Int); omega⟩, ⟨by show (-128 : Int) ≤ b; omega, by show b ≤ (127 : Int); omega⟩⟩ rfl hv
  rw [← ofL_of (fileTx _), ← ofL_of t, ht]
  congr 1
  rw [show (strOf [48 + (⟨a, b⟩ : Spot).x]) = px from ex.symm, show (strOf [48 + (⟨a, b⟩ : Spot).y]) = py from ey.symm]
  rcases hw with ⟨h1, rfl⟩ | ⟨h2, h3, h4⟩
  · rw [if_pos (by rfl), List.append_nil, pcs_one h1 h0, e0]
  · rw [if_neg (by omega), pcs_two h2 h0 h3, e0]
theorem numTo_succ {s : ByteArray} {i : Nat} {b : UInt8} (h : s[i]? = some b) : 10 * numTo s i + ((b.toNat : Int) - 48) = numTo s (i + 1) := by
  show _ = 10 * numTo s i + dgt s i; rw [dgt_at h]
theorem ne_pos {s : ByteArray} (h : ¬ s.toList = (⟨#[]⟩ : ByteArray).toList) : 0 < s.size := by
  rcases Nat.eq_zero_or_pos s.size with e | e
  · exfalso; apply h
    have : s = ⟨#[]⟩ := by
      apply ByteArray.ext
      exact Array.eq_empty_of_size_eq_zero e
    rw [this]
  · exact e
theorem dig_step {s : ByteArray} {i : Nat} {b : UInt8} (h : digTo s i) (hb : s[i]? = some b) (h1 : 48 ≤ b.toNat) (h2 : b.toNat ≤ 57) : digTo s (i + 1) := by
  intro j c hj hc
  rcases Nat.lt_or_ge j i with h9 | h9
  · exact h j c h9 hc
  · obtain rfl : j = i := by omega
    rw [hb] at hc; cases hc; exact ⟨h1, h2⟩
theorem u8_lt (b : UInt8) : b.toNat < 256 := b.toNat_lt
def num2 (s : ByteArray) (x : Int) (b : Bool) : Prop := (b = true ∧ numOk s ∧ x = numTo s s.size) ∨ (b = false ∧ ¬ numOk s ∧ x = 0)
open Classical in
theorem exists_num2 (s : ByteArray) : ∃ x b, num2 s x b := by
  by_cases h : numOk s
  · exact ⟨_, true, .inl ⟨rfl, h, rfl⟩⟩
  · exact ⟨_, false, .inr ⟨rfl, h, rfl⟩⟩
theorem num2_bnd {s : ByteArray} {x : Int} {b : Bool} (h : num2 s x b) : 0 ≤ x ∧ x ≤ 9999999999 := by
  rcases h with ⟨_, h, rfl⟩ | ⟨_, _, rfl⟩
  · exact numTo_le h.2.2.2 (Nat.le_refl _) h.2.1
  · exact ⟨by decide, by decide⟩
theorem num2_dig {s : ByteArray} {x : Int} (h : num2 s x true) (hx : x < 10) : s = strOf [48 + x] ∧ 0 ≤ x ∧ x ≤ 9 := by
  rcases h with ⟨_, h, rfl⟩ | ⟨e, _⟩
  · obtain ⟨h1, h2⟩ := numTo_dig h hx
    exact ⟨h1, h2, by omega⟩
  · cases e
theorem num2_of {n : Int} (h0 : 0 ≤ n) (h9 : n ≤ 9) : num2 (strOf [48 + n]) n true :=
  .inl ⟨rfl, (numOk_dig h0 h9).1, (numOk_dig h0 h9).2.symm⟩
theorem yes_letter {l : List Spot} (h : plainF l) {w : ByteArray} (hw : w.data.toList = ls8 l) {i : Nat} {b : UInt8} (hi : i < l.length - 1) (hb : w[i]? = some b) : 0 ≤ lt4 b := by
  obtain ⟨x, hx⟩ := get_lt (show i < l.length by omega)
  obtain ⟨y, hy⟩ := get_lt (show i + 1 < l.length by omega)
  obtain ⟨s0, s3⟩ := plain_step h hx hy
  rw [ba_get, hw, ls8_at hi, at_get hx, at_get hy] at hb
  cases hb
  rw [ltr_lt4 s0 s3]; exact s0
theorem str2_at {P : List ByteArray} {a b : ByteArray} (h : P = [a, b]) : P.length = 2 ∧ P[0]? = some a ∧ P[1]? = some b := by subst h; exact ⟨rfl, rfl, rfl⟩
def txIs (l : List Spot) (tx : ByteArray) : Prop := (plainF l ∧ tx = fileTx l) ∨ (¬ plainF l ∧ tx = ⟨#[]⟩)
open Classical in
theorem exists_tx (l : List Spot) : ∃ tx, txIs l tx := by
  by_cases h : plainF l
  · exact ⟨_, .inl ⟨h, rfl⟩⟩
  · exact ⟨_, .inr ⟨h, rfl⟩⟩
theorem tx_no {l : List Spot} {tx t : ByteArray} (h : txIs l tx) (hno : ∀ l, plainF l → fileTx l ≠ t) (ht : 0 < t.size) : ¬ tx.toList = t.toList := by
  intro e
  have := toL_inj e
  subst this
  rcases h with ⟨h1, h2⟩ | ⟨_, h2⟩
  · exact hno l h1 h2.symm
  · rw [h2] at ht; exact absurd ht (Nat.lt_irrefl 0)
def hasF (t : ByteArray) : Prop := ∃ l, plainF l ∧ fileTx l = t
end Go.AW
