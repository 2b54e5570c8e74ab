/- The rules for single operations on numbers and texts. -/
import Derived.Test.YtmmmjdbknepjgaaDoorLog
namespace Go.AW
open Go
set_option linter.unusedVariables false
set_option linter.unusedSimpArgs false

def AOd (P : Program) (o : Oper) (ρ : Operand → Value) (H : AHeap) (v : Value) (H' : AHeap) : Prop := AO P o ρ H (fun v1 H1 => v1 = v ∧ H1 = H')

section
variable {P : Program} {Q : Exit → AFr → AHeap → Prop} {fr : AFr} {H H' : AHeap} {ρ : Operand → Value} {g : Option (Nat × Bool)} {d : Option Tmp} {ty : TypeId} {pos : String} {aft : Array Edge}

theorem al_opd {ops : Array Oper} {o : Oper} {rest : List Oper} {v : Value} (hg : o.guard = none) (hx : o.op.operands.toList.all okX = true)
    (hd : o.dst.all (fun d => Nat.blt d fr.n) = true) (ho : AOd P o fr.ev H v H') (h : AL P ops Q rest (fr.putO o.dst v) H') :
    AL P ops Q (o :: rest) fr H :=
  al_op hg hx hd ho (by rintro v1 H1 ⟨rfl, rfl⟩; exact h)

theorem AO.pure {o : Oper} {v : Value}
    (h : ∀ (β : Bt) (ρ' : Operand → Value) (w : World), (∀ x ∈ o.op.operands, VR β (ρ x) (ρ' x)) → HRel β H w → ∃ v', (execOp ρ' o).run P w = .ok (.value v') w ∧ VR β v v') :
    AOd P o ρ H v H := by
  intro β ρ' w hx hh
  obtain ⟨v', hr, hv⟩ := h β ρ' w hx hh
  exact gives_value hr ⟨v, H, β, ⟨rfl, rfl⟩, hv, hh, Step.refl _ _ _, Nat.le_refl _⟩

theorem ao_move {x : Operand} : AOd P ⟨d, .move x, ty, pos, aft, g⟩ ρ H (ρ x) H :=
  AO.pure fun β ρ' w hx _ => ⟨ρ' x, by simp [execOp, Pure.pure, Sem.run], hx x (by simp [Op.operands])⟩

theorem ao_assign {x : Operand} : AOd P ⟨d, .assign x, ty, pos, aft, g⟩ ρ H (ρ x) H :=
  AO.pure fun β ρ' w hx _ => ⟨ρ' x, by simp [execOp, Pure.pure, Sem.run], hx x (by simp [Op.operands])⟩

theorem ao_pick {c x y : Operand} {b : Bool} (hc : ρ c = .bool b) : AOd P ⟨d, .pick c x y, ty, pos, aft, g⟩ ρ H (if b then ρ x else ρ y) H :=
  AO.pure fun β ρ' w hx _ => by
    have h1 := hx c (by simp [Op.operands]); rw [hc] at h1
    have h2 := hx x (by simp [Op.operands])
    have h3 := hx y (by simp [Op.operands])
    refine ⟨if b then ρ' x else ρ' y, ?_, ?_⟩
    · simp [execOp, h1.bool_inv, asBool, go_sem]
    · cases b <;> simp [h2, h3]

/-! ### numbers -/
section
variable {xt yt : TypeId} {x y : Operand} {k : IntKind} {m n : Int}

theorem int2 {β : Bt} {ρ' : Operand → Value} {op : BinOp} {k2 : IntKind} (hx : ρ x = .int k m) (hy : ρ y = .int k2 n)
    (h : ∀ z ∈ (Op.binOp op xt x y yt).operands, VR β (ρ z) (ρ' z)) : ρ' x = .int k m ∧ ρ' y = .int k2 n := by
  have h1 := h x (by simp [Op.operands]); rw [hx] at h1
  have h2 := h y (by simp [Op.operands]); rw [hy] at h2
  exact ⟨h1.int_inv, h2.int_inv⟩

theorem ao_add (hx : ρ x = .int k m) (hy : ρ y = .int k n) : AOd P ⟨d, .binOp .add xt x y yt, ty, pos, aft, g⟩ ρ H (.int k (k.wrap (m + n))) H :=
  AO.pure fun β ρ' w h _ => by
    obtain ⟨h1, h2⟩ := int2 hx hy h
    exact ⟨_, by simp [execOp, h1, h2, go_sem, binOp, eqGuard, Op.intArith], .int _ _⟩
theorem ao_sub (hx : ρ x = .int k m) (hy : ρ y = .int k n) : AOd P ⟨d, .binOp .sub xt x y yt, ty, pos, aft, g⟩ ρ H (.int k (k.wrap (m - n))) H :=
  AO.pure fun β ρ' w h _ => by
    obtain ⟨h1, h2⟩ := int2 hx hy h
    exact ⟨_, by simp [execOp, h1, h2, go_sem, binOp, eqGuard, Op.intArith], .int _ _⟩
theorem ao_mul (hx : ρ x = .int k m) (hy : ρ y = .int k n) : AOd P ⟨d, .binOp .mul xt x y yt, ty, pos, aft, g⟩ ρ H (.int k (k.wrap (m * n))) H :=
  AO.pure fun β ρ' w h _ => by
    obtain ⟨h1, h2⟩ := int2 hx hy h
    exact ⟨_, by simp [execOp, h1, h2, go_sem, binOp, eqGuard, Op.intArith], .int _ _⟩
theorem ao_quo (hx : ρ x = .int k m) (hy : ρ y = .int k n) (h0 : n ≠ 0) : AOd P ⟨d, .binOp .quo xt x y yt, ty, pos, aft, g⟩ ρ H (.int k (k.wrap (m.tdiv n))) H :=
  AO.pure fun β ρ' w h _ => by
    obtain ⟨h1, h2⟩ := int2 hx hy h
    exact ⟨_, by simp [execOp, h1, h2, go_sem, binOp, eqGuard, Op.intDiv, h0], .int _ _⟩
theorem ao_rem (hx : ρ x = .int k m) (hy : ρ y = .int k n) (h0 : n ≠ 0) : AOd P ⟨d, .binOp .rem xt x y yt, ty, pos, aft, g⟩ ρ H (.int k (m.tmod n)) H :=
  AO.pure fun β ρ' w h _ => by
    obtain ⟨h1, h2⟩ := int2 hx hy h
    exact ⟨_, by simp [execOp, h1, h2, go_sem, binOp, eqGuard, Op.intDiv, h0], .int _ _⟩
theorem ao_eql (hx : ρ x = .int k m) (hy : ρ y = .int k n) : AOd P ⟨d, .binOp .eql xt x y yt, ty, pos, aft, g⟩ ρ H (.bool (m == n)) H :=
  AO.pure fun β ρ' w h _ => by
    obtain ⟨h1, h2⟩ := int2 hx hy h
    exact ⟨_, by simp [execOp, h1, h2, go_sem, binOp, eqGuard, Op.intCmp], .bool _⟩
theorem ao_neq (hx : ρ x = .int k m) (hy : ρ y = .int k n) : AOd P ⟨d, .binOp .neq xt x y yt, ty, pos, aft, g⟩ ρ H (.bool (m != n)) H :=
  AO.pure fun β ρ' w h _ => by
    obtain ⟨h1, h2⟩ := int2 hx hy h
    exact ⟨_, by simp [execOp, h1, h2, go_sem, binOp, eqGuard, Op.intCmp], .bool _⟩
theorem ao_lss (hx : ρ x = .int k m) (hy : ρ y = .int k n) : AOd P ⟨d, .binOp .lss xt x y yt, ty, pos, aft, g⟩ ρ H (.bool (decide (m < n))) H :=
  AO.pure fun β ρ' w h _ => by
    obtain ⟨h1, h2⟩ := int2 hx hy h
    exact ⟨_, by simp [execOp, h1, h2, go_sem, binOp, eqGuard, Op.intCmp], .bool _⟩
theorem ao_leq (hx : ρ x = .int k m) (hy : ρ y = .int k n) : AOd P ⟨d, .binOp .leq xt x y yt, ty, pos, aft, g⟩ ρ H (.bool (decide (m ≤ n))) H :=
  AO.pure fun β ρ' w h _ => by
    obtain ⟨h1, h2⟩ := int2 hx hy h
    exact ⟨_, by simp [execOp, h1, h2, go_sem, binOp, eqGuard, Op.intCmp], .bool _⟩
theorem ao_gtr (hx : ρ x = .int k m) (hy : ρ y = .int k n) : AOd P ⟨d, .binOp .gtr xt x y yt, ty, pos, aft, g⟩ ρ H (.bool (decide (n < m))) H :=
  AO.pure fun β ρ' w h _ => by
    obtain ⟨h1, h2⟩ := int2 hx hy h
    exact ⟨_, by simp [execOp, h1, h2, go_sem, binOp, eqGuard, Op.intCmp], .bool _⟩
theorem ao_geq (hx : ρ x = .int k m) (hy : ρ y = .int k n) : AOd P ⟨d, .binOp .geq xt x y yt, ty, pos, aft, g⟩ ρ H (.bool (decide (n ≤ m))) H :=
  AO.pure fun β ρ' w h _ => by
    obtain ⟨h1, h2⟩ := int2 hx hy h
    exact ⟨_, by simp [execOp, h1, h2, go_sem, binOp, eqGuard, Op.intCmp], .bool _⟩

/-- &, |, ^, &^ of numbers. -/
def bitsOf (op : BinOp) (k : IntKind) (x y : Int) : Int :=
  let a := BitVec.ofInt k.bits x
  let b := BitVec.ofInt k.bits y
  match op with
  | .and => k.wrap (a &&& b).toNat
  | .or => k.wrap (a ||| b).toNat
  | .xor => k.wrap (a ^^^ b).toNat
  | _ => k.wrap (a &&& ~~~b).toNat
theorem ao_and (hx : ρ x = .int k m) (hy : ρ y = .int k n) : AOd P ⟨d, .binOp .and xt x y yt, ty, pos, aft, g⟩ ρ H (.int k (bitsOf .and k m n)) H :=
  AO.pure fun β ρ' w h _ => by
    obtain ⟨h1, h2⟩ := int2 hx hy h
    exact ⟨_, by simp [execOp, h1, h2, go_sem, binOp, eqGuard, Op.intBits, bitsOf], .int _ _⟩
theorem ao_or (hx : ρ x = .int k m) (hy : ρ y = .int k n) : AOd P ⟨d, .binOp .or xt x y yt, ty, pos, aft, g⟩ ρ H (.int k (bitsOf .or k m n)) H :=
  AO.pure fun β ρ' w h _ => by
    obtain ⟨h1, h2⟩ := int2 hx hy h
    exact ⟨_, by simp [execOp, h1, h2, go_sem, binOp, eqGuard, Op.intBits, bitsOf], .int _ _⟩
theorem ao_xor (hx : ρ x = .int k m) (hy : ρ y = .int k n) : AOd P ⟨d, .binOp .xor xt x y yt, ty, pos, aft, g⟩ ρ H (.int k (bitsOf .xor k m n)) H :=
  AO.pure fun β ρ' w h _ => by
    obtain ⟨h1, h2⟩ := int2 hx hy h
    exact ⟨_, by simp [execOp, h1, h2, go_sem, binOp, eqGuard, Op.intBits, bitsOf], .int _ _⟩
theorem ao_andNot (hx : ρ x = .int k m) (hy : ρ y = .int k n) : AOd P ⟨d, .binOp .andNot xt x y yt, ty, pos, aft, g⟩ ρ H (.int k (bitsOf .andNot k m n)) H :=
  AO.pure fun β ρ' w h _ => by
    obtain ⟨h1, h2⟩ := int2 hx hy h
    exact ⟨_, by simp [execOp, h1, h2, go_sem, binOp, eqGuard, Op.intBits, bitsOf], .int _ _⟩

theorem ao_shl {k2 : IntKind} (hx : ρ x = .int k m) (hy : ρ y = .int k2 n) (h0 : 0 ≤ n) :
    AOd P ⟨d, .binOp .shl xt x y yt, ty, pos, aft, g⟩ ρ H (.int k (k.wrap (m * 2 ^ (min n.toNat k.bits)))) H :=
  AO.pure fun β ρ' w h _ => by
    obtain ⟨h1, h2⟩ := int2 hx hy h
    exact ⟨_, by simp [execOp, h1, h2, go_sem, binOp, eqGuard, Op.shift, show ¬ n < 0 by omega], .int _ _⟩
theorem ao_shr {k2 : IntKind} (hx : ρ x = .int k m) (hy : ρ y = .int k2 n) (h0 : 0 ≤ n) :
    AOd P ⟨d, .binOp .shr xt x y yt, ty, pos, aft, g⟩ ρ H (.int k (m.fdiv (2 ^ (min n.toNat k.bits)))) H :=
  AO.pure fun β ρ' w h _ => by
    obtain ⟨h1, h2⟩ := int2 hx hy h
    exact ⟨_, by simp [execOp, h1, h2, go_sem, binOp, eqGuard, Op.shift, show ¬ n < 0 by omega], .int _ _⟩
end

theorem ao_not {t : TypeId} {x : Operand} {b : Bool} (hx : ρ x = .bool b) : AOd P ⟨d, .unOp .not t x, ty, pos, aft, g⟩ ρ H (.bool !b) H :=
  AO.pure fun β ρ' w h _ => by
    have h1 := h x (by simp [Op.operands]); rw [hx] at h1
    exact ⟨_, by simp [execOp, h1.bool_inv, go_sem, Op.unary], .bool _⟩
theorem ao_neg {t : TypeId} {x : Operand} {k : IntKind} {m : Int} (hx : ρ x = .int k m) : AOd P ⟨d, .unOp .neg t x, ty, pos, aft, g⟩ ρ H (.int k (k.wrap (0 - m))) H :=
  AO.pure fun β ρ' w h _ => by
    have h1 := h x (by simp [Op.operands]); rw [hx] at h1
    exact ⟨_, by simp [execOp, h1.int_inv, go_sem, Op.unary, Op.intArith], .int _ _⟩

theorem ao_conv {s t : TypeId} {x : Operand} {k k' : IntKind} {m : Int} (hs : ∃ e, P.underlying s = some e) (ht : P.underlying t = some (.int k')) (hx : ρ x = .int k m) :
    AOd P ⟨d, .convert s t x, ty, pos, aft, g⟩ ρ H (.int k' (k'.wrap m)) H :=
  AO.pure fun β ρ' w h _ => by
    obtain ⟨e, hs⟩ := hs
    have h1 := h x (by simp [Op.operands]); rw [hx] at h1
    refine ⟨_, ?_, .int _ _⟩
    simp [execOp, h1.int_inv, go_sem, convert, underlying, hs, ht, Conv.intToInt]

theorem ao_extract {x : Operand} {vs : Array Value} {i : Nat} {v : Value} (hx : ρ x = .tuple vs) (hi : vs[i]? = some v) : AOd P ⟨d, .extract x i, ty, pos, aft, g⟩ ρ H v H :=
  AO.pure fun β ρ' w h _ => by
    have h1 := h x (by simp [Op.operands]); rw [hx] at h1
    generalize hz : ρ' x = z at h1
    cases h1 with
    | tuple hs hs' =>
      rename_i ys
      obtain ⟨u, hu⟩ : ∃ u, ys[i]? = some u := ⟨_, Array.getElem?_eq_getElem (by rw [← hs]; exact (Array.getElem?_eq_some_iff.1 hi).1)⟩
      exact ⟨u, by simp [execOp, hz, go_sem, Instr.extract, hu], hs' i v u hi hu⟩

/-! ### strings -/
section
variable {xt yt : TypeId} {x y : Operand} {s t : ByteArray}
theorem str2 {β : Bt} {ρ' : Operand → Value} {op : BinOp} (hx : ρ x = .string s) (hy : ρ y = .string t)
    (h : ∀ z ∈ (Op.binOp op xt x y yt).operands, VR β (ρ z) (ρ' z)) : ρ' x = .string s ∧ ρ' y = .string t := by
  have h1 := h x (by simp [Op.operands]); rw [hx] at h1
  have h2 := h y (by simp [Op.operands]); rw [hy] at h2
  exact ⟨h1.string_inv, h2.string_inv⟩
theorem ao_sadd (hx : ρ x = .string s) (hy : ρ y = .string t) (hb : s.size + t.size ≤ 9223372036854775807) : AOd P ⟨d, .binOp .add xt x y yt, ty, pos, aft, g⟩ ρ H (.string (s ++ t)) H :=
  AO.pure fun β ρ' w h _ => by
    obtain ⟨h1, h2⟩ := str2 hx hy h
    refine ⟨_, ?_, .string _⟩
    have : ¬ (((s.size + t.size : Nat) : Int) > IntKind.i64.max) := by
      have : IntKind.i64.max = 9223372036854775807 := by decide
      omega
    have hh : (execOp ρ' ⟨d, .binOp .add xt x y yt, ty, pos, aft, g⟩).run P w = (do let z ← Op.stringOp .add s t; Pure.pure (Next.value z) : Sem Next).run P w := by
      simp [execOp, h1, h2, go_sem, binOp, eqGuard]
    rw [hh]; unfold Op.stringOp; simp only [this, if_false]; simp [go_sem]
theorem ao_seql (hx : ρ x = .string s) (hy : ρ y = .string t) : AOd P ⟨d, .binOp .eql xt x y yt, ty, pos, aft, g⟩ ρ H (.bool (s.toList == t.toList)) H :=
  AO.pure fun β ρ' w h _ => by
    obtain ⟨h1, h2⟩ := str2 hx hy h
    exact ⟨_, by simp [execOp, h1, h2, go_sem, binOp, eqGuard, Op.stringOp], .bool _⟩
theorem ao_sneq (hx : ρ x = .string s) (hy : ρ y = .string t) : AOd P ⟨d, .binOp .neq xt x y yt, ty, pos, aft, g⟩ ρ H (.bool (!(s.toList == t.toList))) H :=
  AO.pure fun β ρ' w h _ => by
    obtain ⟨h1, h2⟩ := str2 hx hy h
    refine ⟨_, ?_, .bool _⟩
    have hh : (execOp ρ' ⟨d, .binOp .neq xt x y yt, ty, pos, aft, g⟩).run P w = (do let z ← Op.stringOp .neq s t; Pure.pure (Next.value z) : Sem Next).run P w := by
      simp [execOp, h1, h2, go_sem, binOp, eqGuard]
    rw [hh]; unfold Op.stringOp; simp [Sem.run, Pure.pure, Bind.bind, Sem.bind]
end
end
end Go.AW
