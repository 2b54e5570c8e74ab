/- Moves out of texts. -/
import Derived.Test.YtlcfmbaeaieomaaDoorMoves
import Derived.Laws.Externs
namespace Go.AW
open Go
set_option linter.unusedVariables false

def movesB : ByteArray := ⟨#[110, 101, 115, 119, 116, 45]⟩
def ltrOf (b : UInt8) : Int := if b = 110 then 0 else if b = 101 then 1 else if b = 115 then 2 else if b = 119 then 3 else if b = 116 then 4 else if b = 45 then 5 else -1
def ltrAt (b : UInt8) (j : Nat) : Prop := movesB[j]? = some b
theorem ltr_at {b c : UInt8} {j : Nat} (h : movesB[j]? = some c) : ltrAt b j ↔ c = b := by unfold ltrAt; rw [h]; simp
theorem ltr_cases (b : UInt8) : b = 110 ∨ b = 101 ∨ b = 115 ∨ b = 119 ∨ b = 116 ∨ b = 45 ∨ (b ≠ 110 ∧ b ≠ 101 ∧ b ≠ 115 ∧ b ≠ 119 ∧ b ≠ 116 ∧ b ≠ 45) := by
  by_cases h0 : b = 110
  · exact .inl h0
  by_cases h1 : b = 101
  · exact .inr (.inl h1)
  by_cases h2 : b = 115
  · exact .inr (.inr (.inl h2))
  by_cases h3 : b = 119
  · exact .inr (.inr (.inr (.inl h3)))
  by_cases h4 : b = 116
  · exact .inr (.inr (.inr (.inr (.inl h4))))
  by_cases h5 : b = 45
  · exact .inr (.inr (.inr (.inr (.inr (.inl h5)))))
  exact .inr (.inr (.inr (.inr (.inr (.inr ⟨h0, h1, h2, h3, h4, h5⟩)))))
theorem ltr_none {b : UInt8} (h : b ≠ 110 ∧ b ≠ 101 ∧ b ≠ 115 ∧ b ≠ 119 ∧ b ≠ 116 ∧ b ≠ 45) : ltrOf b = -1 := by
  obtain ⟨h0, h1, h2, h3, h4, h5⟩ := h
  unfold ltrOf; rw [if_neg h0, if_neg h1, if_neg h2, if_neg h3, if_neg h4, if_neg h5]
theorem at_lt {j : Nat} (h : j < 6) : ∃ c, movesB[j]? = some c ∧ (c = 110 ∨ c = 101 ∨ c = 115 ∨ c = 119 ∨ c = 116 ∨ c = 45) := by
  match j, h with
  | 0, _ => exact ⟨110, rfl, by simp⟩
  | 1, _ => exact ⟨101, rfl, by simp⟩
  | 2, _ => exact ⟨115, rfl, by simp⟩
  | 3, _ => exact ⟨119, rfl, by simp⟩
  | 4, _ => exact ⟨116, rfl, by simp⟩
  | 5, _ => exact ⟨45, rfl, by simp⟩
theorem ltr_first (b : UInt8) : firstAt (ltrAt b) 6 (ltrOf b) := by
  rcases ltr_cases b with rfl | rfl | rfl | rfl | rfl | rfl | h
  · exact .inr ⟨0, by omega, rfl, rfl, fun j hj => by omega⟩
  · exact .inr ⟨1, by omega, rfl, rfl, fun j hj => by match j, hj with | 0, _ => exact fun e => absurd ((ltr_at (c := 110) rfl).mp e) (by decide)⟩
  · exact .inr ⟨2, by omega, rfl, rfl, fun j hj => by match j, hj with | 0, _ => exact fun e => absurd ((ltr_at (c := 110) rfl).mp e) (by decide) | 1, _ => exact fun e => absurd ((ltr_at (c := 101) rfl).mp e) (by decide)⟩
  · exact .inr ⟨3, by omega, rfl, rfl, fun j hj => by match j, hj with | 0, _ => exact fun e => absurd ((ltr_at (c := 110) rfl).mp e) (by decide) | 1, _ => exact fun e => absurd ((ltr_at (c := 101) rfl).mp e) (by decide) | 2, _ => exact fun e => absurd ((ltr_at (c := 115) rfl).mp e) (by decide)⟩
  · exact .inr ⟨4, by omega, rfl, rfl, fun j hj => by match j, hj with | 0, _ => exact fun e => absurd ((ltr_at (c := 110) rfl).mp e) (by decide) | 1, _ => exact fun e => absurd ((ltr_at (c := 101) rfl).mp e) (by decide) | 2, _ => exact fun e => absurd ((ltr_at (c := 115) rfl).mp e) (by decide) | 3, _ => exact fun e => absurd ((ltr_at (c := 119) rfl).mp e) (by decide)⟩
  · exact .inr ⟨5, by omega, rfl, rfl, fun j hj => by match j, hj with | 0, _ => exact fun e => absurd ((ltr_at (c := 110) rfl).mp e) (by decide) | 1, _ => exact fun e => absurd ((ltr_at (c := 101) rfl).mp e) (by decide) | 2, _ => exact fun e => absurd ((ltr_at (c := 115) rfl).mp e) (by decide) | 3, _ => exact fun e => absurd ((ltr_at (c := 119) rfl).mp e) (by decide) | 4, _ => exact fun e => absurd ((ltr_at (c := 116) rfl).mp e) (by decide)⟩
  · refine .inl ⟨ltr_none h, fun j hj e => ?_⟩
    obtain ⟨c, hc, hcs⟩ := at_lt hj
    have := (ltr_at hc).mp e
    subst this
    obtain ⟨h0, h1, h2, h3, h4, h5⟩ := h
    rcases hcs with e | e | e | e | e | e <;> contradiction
theorem firstIdx_ltr (b : UInt8) : firstIdx movesB b = ltrOf b := by
  rcases ltr_cases b with rfl | rfl | rfl | rfl | rfl | rfl | h
  · decide
  · decide
  · decide
  · decide
  · decide
  · decide
  · rw [ltr_none h]
    unfold firstIdx
    have : ((List.range movesB.size).find? fun i => movesB[i]! == b) = none := by
      rw [List.find?_eq_none]
      intro j hj
      have hj' : j < 6 := List.mem_range.mp hj
      obtain ⟨h0, h1, h2, h3, h4, h5⟩ := h
      match j, hj' with
      | 0, _ => exact fun e => h0 (eq_of_beq e).symm
      | 1, _ => exact fun e => h1 (eq_of_beq e).symm
      | 2, _ => exact fun e => h2 (eq_of_beq e).symm
      | 3, _ => exact fun e => h3 (eq_of_beq e).symm
      | 4, _ => exact fun e => h4 (eq_of_beq e).symm
      | 5, _ => exact fun e => h5 (eq_of_beq e).symm
    rw [this]
def ksOf (t : ByteArray) : List Int := t.data.toList.map ltrOf
theorem ks_len (t : ByteArray) : (ksOf t).length = t.size := by unfold ksOf; rw [List.length_map, Array.length_toList]; rfl
theorem ks_at {t : ByteArray} {i : Nat} {b : UInt8} (h : t[i]? = some b) : (ksOf t)[i]? = some (ltrOf b) := by
  unfold ksOf
  rw [List.getElem?_map, Array.getElem?_toList]
  have : t.data[i]? = some b := by
    rw [← h]; rfl
  rw [this]; rfl
theorem byte_at {t : ByteArray} {i : Nat} (h : i < t.size) : ∃ b, t[i]? = some b := ⟨t[i], by rw [getElem?_pos t i h]⟩
theorem let_ltr {b : UInt8} (h : 0 ≤ ltrOf b ∧ ltrOf b ≤ 5) : letM (ltrOf b) = (b.toNat : Int) := by
  rcases ltr_cases b with rfl | rfl | rfl | rfl | rfl | rfl | q
  · rfl
  · rfl
  · rfl
  · rfl
  · rfl
  · rfl
  · rw [ltr_none q] at h; omega
theorem strOf_bytes (l : List UInt8) : strOf (l.map fun b => ((b.toNat : Nat) : Int)) = ⟨l.toArray⟩ := by
  have : ∀ (l : List UInt8) (s : ByteArray), (l.map fun b => ((b.toNat : Nat) : Int)).foldl (fun r n => r.push (UInt8.ofNat n.toNat)) s = ⟨s.data ++ l.toArray⟩ := by
    intro l
    induction l with
    | nil => intro s; simp
    | cons a l ih =>
      intro s
      rw [List.map_cons, List.foldl_cons, ih]
      apply ByteArray.ext
      simp
  have := this l ByteArray.empty
  unfold strOf
  rw [this]
  apply ByteArray.ext
  simp
theorem mv_back {t : ByteArray} (h : toldM (ksOf t)) : mvText (ksOf t) = t := by
  have key : (ksOf t).map letM = t.data.toList.map fun b => ((b.toNat : Nat) : Int) := by
    unfold ksOf
    rw [List.map_map]
    apply List.map_congr_left
    intro b hb
    obtain ⟨i, hi, e⟩ := List.mem_iff_getElem.mp hb
    have h2 := h i (ltrOf b) (by unfold ksOf; rw [List.getElem?_map, List.getElem?_eq_getElem hi, e]; rfl)
    exact let_ltr h2
  unfold mvText
  rw [key, strOf_bytes]
theorem empty_ne {t : ByteArray} (h : 0 < t.size) : (⟨#[]⟩ : ByteArray) ≠ t := by
  intro e; rw [← e] at h; exact absurd h (by decide)
theorem empty_nel {t : ByteArray} (h : 0 < t.size) : ¬ (⟨#[]⟩ : ByteArray).toList = t.toList := by
  intro e
  rw [ByteArray.toList_eq, ByteArray.toList_eq] at e
  have h1 : t.data.toList.length = t.size := by rw [Array.length_toList]; rfl
  rw [← e] at h1
  exact absurd h1 (by show ¬ 0 = _; omega)
theorem ltr_le (b : UInt8) : -1 ≤ ltrOf b ∧ ltrOf b ≤ 5 := by
  rcases ltr_first b with ⟨h, _⟩ | ⟨k, h1, h2, _⟩ <;> omega
theorem eqB {b c : UInt8} (h : ((c.toNat : Nat) : Int) = ((b.toNat : Nat) : Int)) : c = b := UInt8.toNat_inj.mp (by omega)
theorem back8 (b : UInt8) : ((b.toNat : Nat) : Int).toNat.toUInt8 = b := by simp
theorem bad_pos {t : ByteArray} (h : ¬ (t.size ≤ 60 ∧ toldM (ksOf t))) : 0 < t.size := by
  apply Classical.byContradiction
  intro q
  refine h ⟨by omega, fun i k hk => ?_⟩
  have := (List.getElem?_eq_some_iff.mp hk).1
  rw [ks_len] at this; omega
section
variable {P : Program} {H : AHeap} {ρ : Operand → Value} {g : Option (Nat × Bool)} {d : Option Tmp} {ty : TypeId} {pos : String} {aft : Array Edge}
theorem ao_extS {f : FuncId} {x y : Operand} {ts : Array TypeId} {s : ByteArray} {c r : Int} (hx : ρ x = .string s) (hy : ρ y = .int .u8 c) (hc : ∀ w, (callFunc f #[.string s, .int .u8 c]).run P w = .ok (.value (.int .i64 r)) w)
    (hf : ρ (.func f) = .func (.func f) #[] #[]) : AOd P ⟨d, .call ⟨.value (.func f), #[x, y], ts⟩, ty, pos, aft, g⟩ ρ H (.int .i64 r) H :=
  AO.pure fun β ρ' w hv hh => by
    have q1 := hv x (by simp [Op.operands, Call.operands]); rw [hx] at q1
    have q2 := hv y (by simp [Op.operands, Call.operands]); rw [hy] at q2
    have hf' : ρ' (.func f) = .func (.func f) #[] #[] := by
      have := hv (.func f) (by simp [Op.operands, Call.operands])
      rw [hf] at this
      generalize ρ' (.func f) = z at this
      cases this with
      | func h1 h1' h2 h2' =>
        rename_i x' y'
        have e1 : x' = #[] := by simpa using h1.symm
        have e2 : y' = #[] := by simpa using h2.symm
        rw [e1, e2]
    refine ⟨.int .i64 r, ?_, .int _ _⟩
    have := hc w
    simp [execOp, go_sem, resolve, hf', Deferred.ofValue, invoke, q1.string_inv, q2.int_inv, this]
end
end Go.AW
