/- Calls of Go's library that make only blocks that nobody looks at; numbers out of texts. -/
import Derived.Test.YtlcfmbaeaieomaaDoorCut
import Derived.Test.YtlcfmbaeaieomaaDoorFileT
import Derived.Lib.AtoiErrMem
import Derived.Lib.AppendIntMem
import Derived.Lib.ParseIntB
import Derived.Lib.ItoaMem
import Derived.WideLaws
namespace Go.AW
open Go Go.RowKit
set_option linter.unusedVariables false

theorem HRel.below {β : Bt} {H : AHeap} {w w' : World} (h : HRel β H w) (k : Below w.heap.size w w') : HRel β H w' ∧ Step H.next β w β w' := by
  have st : Step H.next β w β w' := ⟨fun _ _ h => .inl h, fun _ _ h => h, fun b _ o S es h => .inl ⟨b, o, S, es, h⟩, fun _ _ _ _ _ h => h, k.os, k.tape, k.output, k.size, fun B hB _ => k.block B hB⟩
  refine ⟨⟨fun b B o S es own hb => ?_, h.stale, h.inj, h.dom, st.glob h.glob⟩, st⟩
  obtain ⟨k', hk', hr⟩ := h.rel b B o S es own hb
  exact ⟨k', hk', hr.mono (fun _ _ h => .inl h) (k.block B (h.lt hb))⟩
/-- A name for a block that nobody looks at. -/
theorem HRel.name {β : Bt} {H : AHeap} {w : World} (h : HRel β H w) :
    HRel (β.set H.next .stale) ((H.push (.cells [] 1)).kill H.next) w ∧ Step H.next β w (β.set H.next .stale) w := by
  have hext := ext_set (t := .stale) h.dom
  have hst : Step H.next β w (β.set H.next .stale) w := by
    refine ⟨hext, ?_, ?_, ?_, rfl, rfl, rfl, Nat.le_refl _, fun _ _ _ => rfl⟩
    · intro b hb hn
      rw [Bt.set_ne _ _ (by omega)]; exact hn
    · intro b B o' S' es' hb
      by_cases hn : b = H.next
      · subst hn; rw [Bt.set_same] at hb; cases hb
      · rw [Bt.set_ne _ _ hn] at hb; exact .inl ⟨_, _, _, _, hb⟩
    · intro b B o' S' es' hb
      by_cases hn : b = H.next
      · subst hn; rw [Bt.set_same] at hb; cases hb
      · rw [Bt.set_ne _ _ hn] at hb; exact hb
  refine ⟨⟨?_, ?_, ?_, ?_, hst.glob h.glob⟩, hst⟩
  · intro b B o' S' es' own hb
    by_cases hn : b = H.next
    · subst hn; rw [Bt.set_same] at hb; cases hb
    · rw [Bt.set_ne _ _ hn] at hb
      obtain ⟨k', hk', hr⟩ := h.rel b B o' S' es' own hb
      exact ⟨k', (blk_kill_ne hn).trans (blk_push_old hk'), hr.mono hext rfl⟩
  · intro b hb
    by_cases hn : b = H.next
    · subst hn; exact blk_kill_same _ _
    · rw [Bt.set_ne _ _ hn] at hb
      rw [blk_kill_ne hn, blk_push_ne hn]; exact h.stale b hb
  · intro b1 b2 B o1 S1 es1 own1 o2 S2 es2 own2 h1 h2 ho
    by_cases e1 : b1 = H.next
    · subst e1; rw [Bt.set_same] at h1; cases h1
    · by_cases e2 : b2 = H.next
      · subst e2; rw [Bt.set_same] at h2; cases h2
      · rw [Bt.set_ne _ _ e1] at h1; rw [Bt.set_ne _ _ e2] at h2
        exact h.inj b1 b2 B o1 S1 es1 own1 o2 S2 es2 own2 h1 h2 ho
  · intro b hb
    have : H.next + 1 ≤ b := hb
    rw [Bt.set_ne _ _ (by omega)]; exact h.dom b (by omega)
theorem ids_eq {args : List Value} (hi : ∀ v ∈ args, ∀ (β : Bt) v', VR β v v' → v' = v) {β : Bt} {args' : Array Value} (hsz : args'.size = args.length) (hv : ∀ (i : Nat) u u', args[i]? = some u → args'[i]? = some u' → VR β u u') : args' = args.toArray := by
  apply Array.ext_getElem?
  intro i
  by_cases hj : i < args.length
  · have h1 : args[i]? = some args[i] := List.getElem?_eq_getElem hj
    have h2 : args'[i]? = some args'[i] := Array.getElem?_eq_getElem (by omega)
    rw [h2, List.getElem?_toArray, h1, hi _ (List.getElem_mem hj) β _ (hv i _ _ h1 h2)]
  · rw [Array.getElem?_eq_none (by omega), Array.getElem?_eq_none (by simp; omega)]
/-- A call that leaves every old block as it was. -/
theorem acd_below {P : Program} {f : FuncId} {args : List Value} {H : AHeap} {v : Value} (hi : ∀ v ∈ args, ∀ (β : Bt) v', VR β v v' → v' = v) (hv : ∀ β : Bt, VR β v v)
    (h : ∀ w, (∀ g ∈ globs, globAt g w.heap[g]?) → Calls P f args.toArray w fun e w' => e = .returned v ∧ Below w.heap.size w w') : ACd P f args H v H := by
  intro β args' w hsz ha hh
  rw [ids_eq hi hsz ha]
  refine (h w fun g hg => (hh.glob g hg).1).mono ?_
  rintro e w' ⟨rfl, hb⟩
  obtain ⟨k1, k2⟩ := hh.below hb
  exact ⟨_, rfl, _, _, _, ⟨rfl, rfl⟩, hv β, k1, k2, Nat.le_refl _⟩
/-- A call that gives a number and an error, a new block that nobody looks at. -/
theorem acd_err {P : Program} {f : FuncId} {args : List Value} {H : AHeap} {n : Int} {T : TypeId} (hi : ∀ v ∈ args, ∀ (β : Bt) v', VR β v v' → v' = v)
    (h : ∀ w, (∀ g ∈ globs, globAt g w.heap[g]?) → Calls P f args.toArray w fun e w' => ∃ N, e = .returned (.tuple #[.int .i64 n, .iface T (.pointer (some ⟨N, 0, none⟩))]) ∧ Below w.heap.size w w') :
    ACd P f args H (.tuple #[.int .i64 n, .iface T (.pointer (some ⟨H.next, 0, none⟩))]) ((H.push (.cells [] 1)).kill H.next) := by
  intro β args' w hsz ha hh
  rw [ids_eq hi hsz ha]
  refine (h w fun g hg => (hh.glob g hg).1).mono ?_
  rintro e w' ⟨N, rfl, hb⟩
  obtain ⟨k1, k2⟩ := hh.below hb
  obtain ⟨k3, k4⟩ := k1.name
  exact ⟨_, rfl, _, _, _, ⟨rfl, rfl⟩, vr_tup2 (.int _ _) (.iface (.ptr ⟨rfl, rfl, .stale, Bt.set_same _ _ _, fun _ _ _ _ _ e => by cases e⟩)), k3, k2.trans k4 (Nat.le_refl _), by show H.next ≤ H.next + 1; omega⟩

def itoaB (n : Int) : ByteArray := ⟨(Lib.itoa n).toArray⟩
theorem ten_cases {n : Int} (h0 : 0 ≤ n) (h9 : n ≤ 9) : n = 0 ∨ n = 1 ∨ n = 2 ∨ n = 3 ∨ n = 4 ∨ n = 5 ∨ n = 6 ∨ n = 7 ∨ n = 8 ∨ n = 9 := by omega
theorem itoa_dig {n : Int} (h0 : 0 ≤ n) (h9 : n ≤ 9) : itoaB n = strOf [48 + n] := by
  unfold itoaB
  rw [Lib.itoa, if_neg (by omega), Lib.decDigits_one (by omega)]
  show _ = (ByteArray.empty.push (UInt8.ofNat (48 + n).toNat))
  rw [show (48 + n).toNat = 48 + n.toNat by omega]; rfl
theorem parse_dig {n : Int} (h0 : 0 ≤ n) (h9 : n ≤ 9) : Lib.parseIntB 64 (strOf [48 + n]).data.toList = .ok n := by
  rcases ten_cases h0 h9 with rfl | rfl | rfl | rfl | rfl | rfl | rfl | rfl | rfl | rfl <;> rfl
/-- A text that is no digit. -/
def noDig (s : ByteArray) : Prop := ∀ n : Int, 0 ≤ n → n ≤ 9 → s ≠ strOf [48 + n]
section
variable {P : Program} {ρ : Operand → Value} {H : AHeap} {d : Option Tmp} {ty : TypeId} {pos : String} {aft : Array Edge} {g : Option (Nat × Bool)}
theorem VR.nilIface_inv {β : Bt} {v : Value} (h : VR β .nilIface v) : v = .nilIface := by cases h; rfl
theorem ao_neIN {t yt T : TypeId} {x y : Operand} {u : Value} (hu : P.underlying t = some (.interface (P.methodsAt t))) (hx : ρ x = .iface T u) (hy : ρ y = .nilIface) : AOd P ⟨d, .binOp .neq t x y yt, ty, pos, aft, g⟩ ρ H (.bool true) H :=
  AO.pure fun β ρ' w h hh => by
    have q1 := h x (by simp [Op.operands]); rw [hx] at q1
    have q2 := h y (by simp [Op.operands]); rw [hy] at q2
    obtain ⟨u', hu'⟩ : ∃ u', ρ' x = .iface T u' := by
      generalize ρ' x = z at q1
      cases q1; exact ⟨_, rfl⟩
    refine ⟨_, ?_, .bool _⟩
    simp [execOp, hu', q2.nilIface_inv, go_sem, eqGuard, run_neq_held_nil w t T _ hu]
theorem ao_neNI {t yt : TypeId} {x : Operand} (hu : P.underlying t = some (.interface (P.methodsAt t))) (hx : ρ x = .nilIface) (hy : ρ (.const .nilIface) = .nilIface) : AOd P ⟨d, .binOp .neq t x (.const .nilIface) yt, ty, pos, aft, g⟩ ρ H (.bool false) H :=
  AO.pure fun β ρ' w h hh => by
    have q1 := h x (by simp [Op.operands]); rw [hx] at q1
    have q2 := h (.const .nilIface) (by simp [Op.operands]); rw [hy] at q2
    refine ⟨.bool false, ?_, .bool _⟩
    simp [execOp, q1.nilIface_inv, q2.nilIface_inv, go_sem, eqGuard, run_neq_nil_nil w t hu]
end
end Go.AW
