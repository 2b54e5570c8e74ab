/- Choices that are read from bytes. -/
import Derived.Test.YtmmmjdbknepjgaaDoorWay
namespace Go.AW
open Go
set_option linter.unusedVariables false
set_option linter.unusedSectionVars false
theorem and255 (m : Int) : 0 ≤ bitsOf .and .u64 m 255 ∧ bitsOf .and .u64 m 255 ≤ 255 := by
  unfold bitsOf
  show 0 ≤ IntKind.u64.wrap ((BitVec.ofInt 64 m &&& BitVec.ofInt 64 255).toNat : Int) ∧ IntKind.u64.wrap ((BitVec.ofInt 64 m &&& BitVec.ofInt 64 255).toNat : Int) ≤ 255
  have h : (BitVec.ofInt 64 m &&& BitVec.ofInt 64 255).toNat ≤ 255 := by
    rw [BitVec.toNat_and]
    exact Nat.and_le_right
  rw [nw (by show (0 : Int) ≤ _; omega) (by show _ ≤ (18446744073709551615 : Int); omega)]
  omega
theorem and255w (m : Int) : 0 ≤ IntKind.i64.wrap (bitsOf .and .u64 m 255) ∧ IntKind.i64.wrap (bitsOf .and .u64 m 255) ≤ 255 := by
  have h := and255 m
  rw [nw (by show (-9223372036854775808 : Int) ≤ _; omega) (by show _ ≤ (9223372036854775807 : Int); omega)]
  exact h
theorem tmod_in {x n : Int} (hx : 0 ≤ x) (hn : 1 < n) : 0 ≤ x.tmod n ∧ x.tmod n < n := ⟨Int.tmod_nonneg _ hx, Int.tmod_lt_of_pos _ (by omega)⟩
/-- Old blocks but one are as they were. -/
def OffP (H G : AHeap) (pb : Nat) : Prop := H.next ≤ G.next ∧ ∀ b, b < H.next → b ≠ pb → G.blk b = H.blk b
theorem OffP.refl (H : AHeap) (pb : Nat) : OffP H H pb := ⟨Nat.le_refl _, fun _ _ _ => rfl⟩
theorem OffP.push {H G : AHeap} {pb : Nat} (h : OffP H G pb) (k : ABlk) : OffP H (G.push k) pb :=
  ⟨by rw [next_push]; exact Nat.le_succ_of_le h.1, fun b hb hne => by rw [blk_push_ne (by have := h.1; omega)]; exact h.2 b hb hne⟩
theorem OffP.setp {H G : AHeap} {pb : Nat} (h : OffP H G pb) (k : ABlk) : OffP H (G.set pb k) pb := ⟨h.1, fun b hb hne => by rw [blk_set_ne hne]; exact h.2 b hb hne⟩
theorem OffP.setn {H G : AHeap} {pb i : Nat} (h : OffP H G pb) (hi : H.next ≤ i) (k : ABlk) : OffP H (G.set i k) pb := ⟨h.1, fun b hb hne => by rw [blk_set_ne (by omega)]; exact h.2 b hb hne⟩
theorem Sl.off {α : Type} {H G : AHeap} {e : α → List Value} {es : Nat} {v : Value} {l : List α} {pb : Nat} (h : Sl H e es v l) (ho : OffP H G pb) (hne : l = [] ∨ vb v ≠ pb) : Sl G e es v l := by
  rcases h with h | ⟨b, o, c, hv, h⟩
  · exact .inl h
  · refine .inr ⟨b, o, c, hv, ?_⟩
    rcases h with h | ⟨k, cs, hk, h⟩
    · exact .inl h
    · rcases hne with hne | hne
      · exact .inl hne
      · subst hv
        exact .inr ⟨k, cs, by rw [ho.2 b (AHeap.lt hk) hne]; exact hk, h⟩
theorem Sl.apart {α : Type} {H : AHeap} {e : α → List Value} {es : Nat} {v : Value} {l : List α} {pb : Nat} (h : Sl H e es v l) (hp : H.next ≤ pb) : l = [] ∨ vb v ≠ pb := by
  rcases h with ⟨_, h⟩ | ⟨b, o, c, hv, h⟩
  · exact .inl h
  · rcases h with h | ⟨k, cs, hk, h⟩
    · exact .inl h
    · subst hv
      have := AHeap.lt hk
      exact .inr (by show b ≠ pb; omega)
theorem OffP.same {H G : AHeap} {pb n : Nat} (h : OffP H G pb) (hn : n ≤ H.next) (hp : n ≤ pb) : Same n H G := fun b hb => h.2 b (by omega) (by omega)
theorem cell_xy {R : Room} {x y : Nat} (ho : okRoom R) (hx : (x : Int) < R.w) (hy : (y : Int) < R.h) : isCell R ⟨(x : Int), (y : Int)⟩ := by
  obtain ⟨h1, h2, h3, h4, _⟩ := ho
  show 0 ≤ (x : Int) ∧ (x : Int) < R.w ∧ (x : Int) < 10 ∧ 0 ≤ (y : Int) ∧ (y : Int) < R.h ∧ (y : Int) < 10
  omega
theorem cell_ofI {R : Room} {x y : Int} (ho : okRoom R) (h0 : 0 ≤ x) (hx : x < R.w) (h1 : 0 ≤ y) (hy : y < R.h) : isCell R ⟨x, y⟩ := by
  obtain ⟨h1, h2, h3, h4, _⟩ := ho
  show 0 ≤ x ∧ x < R.w ∧ x < 10 ∧ 0 ≤ y ∧ y < R.h ∧ y < 10
  omega
theorem wallR_free {R : Room} {s : Spot} (hw : wfRoom R) (hc : isCell R s) : isFree (wallR R s false) s := by
  obtain ⟨h1, h2, h3, h4, h5, h6⟩ := hc
  obtain ⟨d1, d2⟩ := wallR_dims R s false
  refine ⟨⟨h1, by rw [d1]; exact h2, h3, h4, by rw [d2]; exact h5, h6⟩, ?_⟩
  unfold bitAt
  rw [wallR_bit hw.2.2 ⟨h1, h3⟩, if_pos ⟨rfl, rfl⟩]
theorem empty_ok {w h : Int} (h1 : 1 ≤ w) (h2 : w ≤ 10) (h3 : 1 ≤ h) (h4 : h ≤ 10) : okRoom ⟨w, h, fun _ => 0⟩ ∧ wfRoom ⟨w, h, fun _ => 0⟩ := by
  refine ⟨⟨h1, h2, h3, h4, fun y _ => ⟨Nat.two_pow_pos _, fun _ => rfl⟩⟩, ⟨?_, ?_⟩, ⟨?_, ?_⟩, fun y => ?_⟩
  · show (-128 : Int) ≤ w; omega
  · show w ≤ (127 : Int); omega
  · show (-128 : Int) ≤ h; omega
  · show h ≤ (127 : Int); omega
  · show 0 < 65536; decide
end Go.AW
