/- Texts of files. -/
import Derived.Test.YtlcfmbaeaieomaaDoorFile2
import Derived.Test.YtlcfmbaeaieomaaDoorText
import Derived.Laws.Runes
namespace Go.AW
open Go
set_option linter.unusedVariables false

def inB (s : Spot) : Prop := (0 ≤ s.x ∧ s.x ≤ 9) ∧ (0 ≤ s.y ∧ s.y ≤ 9)
def plainF (l : List Spot) : Prop := chain l ∧ ∀ (i : Nat) x, l[i]? = some x → inB x
theorem inB_wf {s : Spot} (h : inB s) : wfSpot s := ⟨⟨by have := h.1.1; omega, by have := h.1.2; omega⟩, ⟨by have := h.2.1; omega, by have := h.2.2; omega⟩⟩
def ltr4 (k : Int) : Int := if k = 0 then 110 else if k = 1 then 101 else if k = 2 then 115 else 119
def ftx (l : List Spot) : Nat → List Int
  | 0 => [48 + (at_ l 0).x, 44, 48 + (at_ l 0).y]
  | k + 1 => ftx l k ++ (if k = 0 then [32] else []) ++ [ltr4 (sideOf (at_ l k) (at_ l (k + 1)))]
def fileTx (l : List Spot) : ByteArray := strOf (ftx l (l.length - 1))
theorem ftx_len (l : List Spot) (k : Nat) : (ftx l k).length ≤ k + 4 := by
  induction k with
  | zero => show 3 ≤ 4; omega
  | succ k ih =>
    show (ftx l k ++ _ ++ [_]).length ≤ _
    rw [List.length_append, List.length_append]
    by_cases h : k = 0
    · subst h; show 3 + 1 + 1 ≤ _; omega
    · rw [if_neg h]; simp; omega
theorem strOf_cat (l m : List Int) : strOf l ++ strOf m = strOf (l ++ m) := by
  have hd : ∀ ns : List Int, (strOf ns).data.toList = ns.map (fun n => UInt8.ofNat n.toNat) := by
    intro ns
    have : ∀ (l : List Int) (s : ByteArray), (l.foldl (fun r n => r.push (UInt8.ofNat n.toNat)) s).data.toList = s.data.toList ++ l.map (fun n => UInt8.ofNat n.toNat) := by
      intro l
      induction l with
      | nil => intro s; simp
      | cons a l ih => intro s; rw [List.foldl_cons, ih, ByteArray.data_push, Array.toList_push, List.append_assoc]; rfl
    exact this ns ByteArray.empty
  apply ByteArray.ext
  apply Array.toList_inj.mp
  rw [hd, List.map_append, ← hd l, ← hd m]
  simp
theorem ftx_zero {l : List Spot} {x : Spot} (hx : l[0]? = some x) : strOf [48 + x.x] ++ (⟨#[44]⟩ : ByteArray) ++ strOf [48 + x.y] = strOf (ftx l 0) := by
  have h : (⟨#[44]⟩ : ByteArray) = strOf [44] := rfl
  rw [h, strOf_cat, strOf_cat]
  show _ = strOf [48 + (at_ l 0).x, 44, 48 + (at_ l 0).y]
  rw [at_get hx]; rfl
theorem ftx_one {l : List Spot} {k : Nat} {x y : Spot} (hk : k = 0) (hx : l[k]? = some x) (hy : l[k + 1]? = some y) : strOf (ftx l k) ++ (⟨#[32]⟩ : ByteArray) ++ strOf [ltr4 (sideOf x y)] = strOf (ftx l (k + 1)) := by
  have h : (⟨#[32]⟩ : ByteArray) = strOf [32] := rfl
  rw [h, strOf_cat, strOf_cat]
  show _ = strOf (ftx l k ++ (if k = 0 then [32] else []) ++ [ltr4 (sideOf (at_ l k) (at_ l (k + 1)))])
  rw [if_pos hk, at_get hx, at_get hy]
theorem ftx_more {l : List Spot} {k : Nat} {x y : Spot} (hk : ¬ k = 0) (hx : l[k]? = some x) (hy : l[k + 1]? = some y) : strOf (ftx l k) ++ strOf [ltr4 (sideOf x y)] = strOf (ftx l (k + 1)) := by
  rw [strOf_cat]
  show _ = strOf (ftx l k ++ (if k = 0 then [32] else []) ++ [ltr4 (sideOf (at_ l k) (at_ l (k + 1)))])
  rw [if_neg hk, List.append_nil, at_get hx, at_get hy]
theorem sz44 : (⟨#[44]⟩ : ByteArray).size = 1 := rfl
theorem sz32 : (⟨#[32]⟩ : ByteArray).size = 1 := rfl
def neswB : ByteArray := ⟨#[110, 101, 115, 119]⟩
theorem side_letter {k : Int} (h0 : 0 ≤ k) (h3 : k ≤ 3) : ∃ (n : Nat) (c : UInt8), k = (n : Int) ∧ neswB[n]? = some c ∧ Value.int .u8 (c.toNat : Int) = .int .u8 (ltr4 k) := by
  obtain rfl | rfl | rfl | rfl : k = 0 ∨ k = 1 ∨ k = 2 ∨ k = 3 := by omega
  · exact ⟨0, 110, rfl, rfl, rfl⟩
  · exact ⟨1, 101, rfl, rfl, rfl⟩
  · exact ⟨2, 115, rfl, rfl, rfl⟩
  · exact ⟨3, 119, rfl, rfl, rfl⟩
theorem ltr4_bnd (k : Int) : 0 ≤ ltr4 k ∧ ltr4 k < 128 := by
  unfold ltr4
  split
  · exact ⟨by decide, by decide⟩
  · split
    · exact ⟨by decide, by decide⟩
    · split <;> exact ⟨by decide, by decide⟩
theorem encode_one {n : Int} (h0 : 0 ≤ n) (h : n < 128) : Utf8.encode n = strOf [n] := by
  have hv : Utf8.valid n = true := by unfold Utf8.valid; simp; omega
  unfold Utf8.encode
  simp only [hv, if_true, show n.toNat < 128 by omega]
  rfl
theorem digB {n : Int} {s : ByteArray} (h0 : 0 ≤ n) (h9 : n ≤ 9) (hs : s.extract 0 10 = ⟨#[48, 49, 50, 51, 52, 53, 54, 55, 56, 57]⟩) : s.extract n.toNat (n.toNat + 1) = strOf [48 + n] := by
  have e : ∀ k, k < 10 → s.extract k (k + 1) = (s.extract 0 10).extract k (k + 1) := fun k hk => by
    rw [ByteArray.extract_extract]; congr 1 <;> omega
  rw [e _ (by omega), hs]
  obtain rfl | rfl | rfl | rfl | rfl | rfl | rfl | rfl | rfl | rfl : n = 0 ∨ n = 1 ∨ n = 2 ∨ n = 3 ∨ n = 4 ∨ n = 5 ∨ n = 6 ∨ n = 7 ∨ n = 8 ∨ n = 9 := by omega
  all_goals rfl
theorem tmod10 {n : Int} (h0 : 0 ≤ n) (h9 : n ≤ 9) : Value.int .i64 (n.tmod 10) = .int .i64 n := by
  congr 1
  rw [Int.tmod_eq_emod_of_nonneg h0]; omega
theorem plain_step {l : List Spot} (h : plainF l) {k : Nat} {x y : Spot} (hx : l[k]? = some x) (hy : l[k + 1]? = some y) : 0 ≤ sideOf x y ∧ sideOf x y ≤ 3 :=
  ⟨(sideOf_ok x y).mpr ((h.1.1 (k + 1) (List.getElem?_eq_some_iff.mp hy).1 y hy).1 k x rfl hx), (sideOf_bnd x y).2⟩
section
variable {P : Program} {ρ : Operand → Value} {H : AHeap} {d : Option Tmp} {ty : TypeId} {pos : String} {aft : Array Edge} {g : Option (Nat × Bool)}
/-- string(b) of a byte that is a letter. -/
theorem ao_chr {src dst : TypeId} {x : Operand} {k : IntKind} {n : Int} (hs : ∃ u, P.underlying src = some u) (hd : P.underlying dst = some .string) (hx : ρ x = .int k n) (h0 : 0 ≤ n) (h : n < 128) :
    AOd P ⟨d, .convert src dst x, ty, pos, aft, g⟩ ρ H (.string (strOf [n])) H :=
  AO.pure fun β ρ' w hv hh => by
    have q1 := hv x (by simp [Op.operands]); rw [hx] at q1
    obtain ⟨u, hu⟩ := hs
    refine ⟨_, ?_, .string _⟩
    have := run_convert_int_string (P := P) w src dst k n (by rw [hu]; rfl) hd
    rw [encode_one h0 h] at this
    simp [execOp, q1.int_inv, go_sem, this]
end
end Go.AW
