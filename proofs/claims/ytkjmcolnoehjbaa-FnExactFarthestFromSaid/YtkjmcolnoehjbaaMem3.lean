/- The rules for slices. -/
import Derived.Test.YtkjmcolnoehjbaaMem2
import Derived.Laws.StructEq
import Derived.Laws.AppendOwn
import Derived.Laws.MakeOwn
import Derived.Laws.IdiomStrings
import Derived.Laws.BytesString
import Derived.Laws.BytesArg
namespace Go.AW
open Go
set_option linter.unusedVariables false
set_option linter.unusedSimpArgs false

section
variable {P : Program} {Q : Exit → AFr → AHeap → Prop} {fr : AFr} {H H' : AHeap} {ρ : Operand → Value} {g : Option (Nat × Bool)} {d : Option Tmp} {ty : TypeId} {pos : String} {aft : Array Edge}

/-- x[lo:hi] of a slice. -/
theorem ao_slice2 {t e : TypeId} {x lo hi : Operand} {b o len c n l h : Nat} {k1 k2 : IntKind} {i j : Int} {k : ABlk} (hu : P.underlying t = some (.slice e)) (hn : ∀ w, (sizeOf e).run P w = .ok n w)
    (hx : ρ x = .slice (some ⟨b, o, none⟩) len c) (hlo : ρ lo = .int k1 i) (hhi : ρ hi = .int k2 j) (hi' : i = (l : Int)) (hj' : j = (h : Int)) (hk : H.blk b = some k) (hf : k.fits n) (h1 : l ≤ h) (h2 : h ≤ len) :
    AOd P ⟨d, .slice t x (some lo) (some hi) none, ty, pos, aft, g⟩ ρ H (.slice (some ⟨b, o + l * n, none⟩) (h - l) (h - l + 1)) H :=
  AO.pure fun β ρ' w hv hh => by
    have q1 := hv x (by simp [Op.operands]); rw [hx] at q1
    have q2 := hv lo (by simp [Op.operands]); rw [hlo] at q2
    have q3 := hv hi (by simp [Op.operands]); rw [hhi] at q3
    obtain ⟨a', c', ha, hA⟩ := q1.slice_inv
    refine ⟨_, ?_, hA.part hh hk hf h1 h2 (c2 := h - l + 1) (fun e => by omega)⟩
    have := hA.2.2.1
    subst hi'; subst hj'
    simp [execOp, ha, q2.int_inv, q3.int_inv, go_sem, Instr.sliceAt, Instr.slice, underlying, hu, hn, Instr.sliceBounds, Instr.sliceBound, asIntOf, show h ≤ c' by omega, h1]

/-- x[lo:] of a slice. -/
theorem ao_sliceLo {t e : TypeId} {x lo : Operand} {b o len c n l : Nat} {k1 : IntKind} {i : Int} {k : ABlk} (hu : P.underlying t = some (.slice e)) (hn : ∀ w, (sizeOf e).run P w = .ok n w)
    (hx : ρ x = .slice (some ⟨b, o, none⟩) len c) (hlo : ρ lo = .int k1 i) (hi' : i = (l : Int)) (hk : H.blk b = some k) (hf : k.fits n) (h1 : l ≤ len) :
    AOd P ⟨d, .slice t x (some lo) none none, ty, pos, aft, g⟩ ρ H (.slice (some ⟨b, o + l * n, none⟩) (len - l) (len - l + 1)) H :=
  AO.pure fun β ρ' w hv hh => by
    have q1 := hv x (by simp [Op.operands]); rw [hx] at q1
    have q2 := hv lo (by simp [Op.operands]); rw [hlo] at q2
    obtain ⟨a', c', ha, hA⟩ := q1.slice_inv
    refine ⟨_, ?_, hA.part hh hk hf h1 (Nat.le_refl _) (c2 := len - l + 1) (fun e => by omega)⟩
    have := hA.2.2.1
    subst hi'
    simp [execOp, ha, q2.int_inv, go_sem, Instr.sliceAt, Instr.slice, underlying, hu, hn, Instr.sliceBounds, Instr.sliceBound, asIntOf, h1]

/-- x[:hi] of a slice. -/
theorem ao_sliceHi {t e : TypeId} {x hi : Operand} {b o len c n h : Nat} {k2 : IntKind} {j : Int} {k : ABlk} (hu : P.underlying t = some (.slice e)) (hn : ∀ w, (sizeOf e).run P w = .ok n w)
    (hx : ρ x = .slice (some ⟨b, o, none⟩) len c) (hhi : ρ hi = .int k2 j) (hj' : j = (h : Int)) (hk : H.blk b = some k) (hf : k.fits n) (h2 : h ≤ len) :
    AOd P ⟨d, .slice t x none (some hi) none, ty, pos, aft, g⟩ ρ H (.slice (some ⟨b, o, none⟩) h (h + 1)) H :=
  AO.pure fun β ρ' w hv hh => by
    have q1 := hv x (by simp [Op.operands]); rw [hx] at q1
    have q3 := hv hi (by simp [Op.operands]); rw [hhi] at q3
    obtain ⟨a', c', ha, hA⟩ := q1.slice_inv
    have key := hA.part hh hk hf (Nat.zero_le h) h2 (c2 := h - 0 + 1) (fun e => by omega)
    have e0 : (⟨b, o + 0 * n, none⟩ : Addr) = ⟨b, o, none⟩ := by simp
    rw [e0] at key
    simp only [Nat.sub_zero] at key
    refine ⟨_, ?_, key⟩
    have := hA.2.2.1
    subst hj'
    simp [execOp, ha, q3.int_inv, go_sem, Instr.sliceAt, Instr.slice, underlying, hu, hn, Instr.sliceBounds, Instr.sliceBound, asIntOf, show h ≤ c' by omega]

/-- x[:0:0] of a slice: nothing, and no room. -/
theorem ao_slice000 {t e : TypeId} {x hi mx : Operand} {b o len c n : Nat} {k2 k3 : IntKind} (hu : P.underlying t = some (.slice e)) (hn : ∀ w, (sizeOf e).run P w = .ok n w)
    (hx : ρ x = .slice (some ⟨b, o, none⟩) len c) (hhi : ρ hi = .int k2 0) (hmx : ρ mx = .int k3 0) :
    AOd P ⟨d, .slice t x none (some hi) (some mx), ty, pos, aft, g⟩ ρ H (.slice (some ⟨b, o, none⟩) 0 0) H :=
  AO.pure fun β ρ' w hv hh => by
    have q1 := hv x (by simp [Op.operands]); rw [hx] at q1
    have q3 := hv hi (by simp [Op.operands]); rw [hhi] at q3
    have q4 := hv mx (by simp [Op.operands]); rw [hmx] at q4
    obtain ⟨a', c', ha, hA⟩ := q1.slice_inv
    obtain ⟨s1, s2, s3, s4, t', s5, s6⟩ := hA
    refine ⟨.slice (some a') 0 0, ?_, .slice ⟨s1, s2, Nat.le_refl _, fun _ => rfl, t', s5, fun B of S es own e => ⟨(s6 B of S es own e).1, .inl ⟨rfl, rfl⟩⟩⟩⟩
    simp [execOp, ha, q3.int_inv, q4.int_inv, go_sem, Instr.sliceAt, Instr.slice, underlying, hu, hn, Instr.sliceBounds, Instr.sliceBound, asIntOf]

/-- The length of a slice that is not nil, of a nil one, of a string. -/
theorem ao_lenS {t e : TypeId} {x : Operand} {b o len c : Nat} (hu : P.underlying t = some (.slice e)) (hx : ρ x = .slice (some ⟨b, o, none⟩) len c) :
    AOd P ⟨d, .call ⟨.builtin .len, #[x], #[t]⟩, ty, pos, aft, g⟩ ρ H (.int .i64 len) H :=
  AO.pure fun β ρ' w hv hh => by
    have q1 := hv x (by simp [Op.operands, Call.operands]); rw [hx] at q1
    obtain ⟨a', c', ha, hA⟩ := q1.slice_inv
    exact ⟨_, by simp [execOp, ha, go_sem, resolve, invoke, builtin, Builtin.len_, underlying, hu, goInt], .int _ _⟩
theorem VR.nil_inv {β : Bt} {v : Value} (h : VR β (.slice none 0 0) v) : v = .slice none 0 0 := by cases h; rfl
theorem ao_lenN {t e : TypeId} {x : Operand} (hu : P.underlying t = some (.slice e)) (hx : ρ x = .slice none 0 0) :
    AOd P ⟨d, .call ⟨.builtin .len, #[x], #[t]⟩, ty, pos, aft, g⟩ ρ H (.int .i64 (0 : Nat)) H :=
  AO.pure fun β ρ' w hv hh => by
    have q1 := hv x (by simp [Op.operands, Call.operands]); rw [hx] at q1
    exact ⟨_, by simp [execOp, q1.nil_inv, go_sem, resolve, invoke, builtin, Builtin.len_, underlying, hu, goInt], .int _ _⟩
theorem ao_lenStr {t : TypeId} {x : Operand} {s : ByteArray} (hu : P.underlying t = some .string) (hx : ρ x = .string s) :
    AOd P ⟨d, .call ⟨.builtin .len, #[x], #[t]⟩, ty, pos, aft, g⟩ ρ H (.int .i64 s.size) H :=
  AO.pure fun β ρ' w hv hh => by
    have q1 := hv x (by simp [Op.operands, Call.operands]); rw [hx] at q1
    exact ⟨_, by simp [execOp, q1.string_inv, go_sem, resolve, invoke, builtin, Builtin.len_, underlying, hu, goInt], .int _ _⟩
theorem ao_lenA {t e : TypeId} {x : Operand} {n : Nat} (hu : P.underlying t = some (.array n e)) :
    AOd P ⟨d, .call ⟨.builtin .len, #[x], #[t]⟩, ty, pos, aft, g⟩ ρ H (.int .i64 n) H :=
  AO.pure fun β ρ' w hv hh =>
    ⟨_, by simp [execOp, go_sem, resolve, invoke, builtin, Builtin.len_, underlying, hu, goInt], .int _ _⟩
theorem ao_min {ts : Array TypeId} {x y : Operand} {k : IntKind} {m n : Int} (hx : ρ x = .int k m) (hy : ρ y = .int k n) :
    AOd P ⟨d, .call ⟨.builtin .min, #[x, y], ts⟩, ty, pos, aft, g⟩ ρ H (.int k (if n < m then n else m)) H :=
  AO.pure fun β ρ' w hv hh => by
    have q1 := hv x (by simp [Op.operands, Call.operands]); rw [hx] at q1
    have q2 := hv y (by simp [Op.operands, Call.operands]); rw [hy] at q2
    exact ⟨_, by simp [execOp, q1.int_inv, q2.int_inv, go_sem, resolve, invoke, builtin, Builtin.min_, Builtin.min2], .int _ _⟩
theorem ao_max {ts : Array TypeId} {x y : Operand} {k : IntKind} {m n : Int} (hx : ρ x = .int k m) (hy : ρ y = .int k n) :
    AOd P ⟨d, .call ⟨.builtin .max, #[x, y], ts⟩, ty, pos, aft, g⟩ ρ H (.int k (if n > m then n else m)) H :=
  AO.pure fun β ρ' w hv hh => by
    have q1 := hv x (by simp [Op.operands, Call.operands]); rw [hx] at q1
    have q2 := hv y (by simp [Op.operands, Call.operands]); rw [hy] at q2
    exact ⟨_, by simp [execOp, q1.int_inv, q2.int_inv, go_sem, resolve, invoke, builtin, Builtin.max_, Builtin.max2], .int _ _⟩

/-- A byte of a string. -/
theorem ao_indexStr {t : TypeId} {x y : Operand} {s : ByteArray} {k : IntKind} {i : Int} {n : Nat} {c : UInt8} (hu : P.underlying t = some .string) (hx : ρ x = .string s) (hy : ρ y = .int k i) (hi : i = (n : Int)) (hc : s[n]? = some c) :
    AOd P ⟨d, .index t x y, ty, pos, aft, g⟩ ρ H (.int .u8 (c.toNat : Int)) H :=
  AO.pure fun β ρ' w hv hh => by
    have q1 := hv x (by simp [Op.operands]); rw [hx] at q1
    have q2 := hv y (by simp [Op.operands]); rw [hy] at q2
    subst hi
    refine ⟨_, ?_, .int _ _⟩
    have : (Instr.index t (.string s) (.int k n)).run P w = .ok (.int .u8 (c.toNat : Int)) w := by
      unfold Instr.index
      simp [asIntOf, underlying, hu, hc]
    simp [execOp, q1.string_inv, q2.int_inv, this]

/-- An element of an array that is a value. -/
theorem ao_indexA {t e : TypeId} {x y : Operand} {cs : Array Value} {k : IntKind} {i : Int} {len n : Nat} {v : Value} (hu : P.underlying t = some (.array len e)) (hg : ∀ w, (isAgg e).run P w = .ok false w) (hn : ∀ w, (sizeOf e).run P w = .ok 1 w)
    (hx : ρ x = .agg cs) (hy : ρ y = .int k i) (hi : i = (n : Int)) (hl : n < len) (hc : cs[n]? = some v) :
    AOd P ⟨d, .index t x y, ty, pos, aft, g⟩ ρ H v H :=
  AO.pure fun β ρ' w hv hh => by
    have q1 := hv x (by simp [Op.operands]); rw [hx] at q1
    have q2 := hv y (by simp [Op.operands]); rw [hy] at q2
    subst hi
    generalize hz : ρ' x = z at q1
    cases q1 with
    | agg h1 h2 =>
      rename_i ys
      obtain ⟨u, hu'⟩ : ∃ u, ys[n]? = some u := ⟨_, Array.getElem?_eq_getElem (by rw [← h1]; exact (Array.getElem?_eq_some_iff.1 hc).1)⟩
      refine ⟨u, ?_, h2 n v u hc hu'⟩
      have : (Instr.index t (.agg ys) (.int k n)).run P w = .ok u w := by
        unfold Instr.index
        simp [asIntOf, underlying, hu, hl, part, hg, hn, hu']
      simp [execOp, hz, q2.int_inv, this]

/-- A string's part. -/
theorem ao_sliceStr {t : TypeId} {x : Operand} {lo hi : Option Operand} {s : ByteArray} {l h : Nat} (hu : P.underlying t = some .string) (hx : ρ x = .string s)
    (hlo : (lo = none ∧ l = 0) ∨ ∃ y k, lo = some y ∧ ρ y = .int k (l : Int)) (hhi : (hi = none ∧ h = s.size) ∨ ∃ y k, hi = some y ∧ ρ y = .int k (h : Int)) (h1 : l ≤ h) (h2 : h ≤ s.size) :
    AOd P ⟨d, .slice t x lo hi none, ty, pos, aft, g⟩ ρ H (.string (s.extract l h)) H :=
  AO.pure fun β ρ' w hv hh => by
    have q1 := hv x (by simp [Op.operands]); rw [hx] at q1
    refine ⟨_, ?_, .string _⟩
    rcases hlo with ⟨rfl, rfl⟩ | ⟨y1, k1, rfl, e1⟩
    · rcases hhi with ⟨rfl, rfl⟩ | ⟨y2, k2, rfl, e2⟩
      · simp [execOp, q1.string_inv, go_sem, Instr.sliceAt, Instr.slice, underlying, hu, Instr.sliceBounds]
      · have q2 := hv y2 (by simp [Op.operands]); rw [e2] at q2
        simp [execOp, q1.string_inv, q2.int_inv, go_sem, Instr.sliceAt, Instr.slice, underlying, hu, Instr.sliceBounds, Instr.sliceBound, asIntOf, h2]
    · have q3 := hv y1 (by simp [Op.operands]); rw [e1] at q3
      rcases hhi with ⟨rfl, rfl⟩ | ⟨y2, k2, rfl, e2⟩
      · simp [execOp, q1.string_inv, q3.int_inv, go_sem, Instr.sliceAt, Instr.slice, underlying, hu, Instr.sliceBounds, Instr.sliceBound, asIntOf, h1]
      · have q2 := hv y2 (by simp [Op.operands]); rw [e2] at q2
        simp [execOp, q1.string_inv, q2.int_inv, q3.int_inv, go_sem, Instr.sliceAt, Instr.slice, underlying, hu, Instr.sliceBounds, Instr.sliceBound, asIntOf, h1, h2]
end
end Go.AW
