/- A call that the kit has proved, as a contract: a new block of plain cells. -/
import Derived.Test.YtlcfmbaeaieomaaDoorKinds
import Derived.Laws.Strings2
import Derived.Laws.Slices
import Derived.Laws.IdiomStrings
namespace Go.AW
open Go Go.RowKit
set_option linter.unusedVariables false
theorem acd_new {P : Program} {f : FuncId} {args : List Value} {H : AHeap} {cs : List Value} {ty : TypeId} {k : Nat} (hi : ∀ v ∈ args, ∀ (β : Bt) v', VR β v v' → v' = v) (hl : ∀ β : Bt, VRL β cs cs) (hk : cs.length = k)
    (h : ∀ w, Calls P f args.toArray w fun e w' => e = .returned (.slice (some ⟨w.heap.size, 0, none⟩) k k) ∧ w' = w.alloc (.cells cs.toArray ty)) :
    ACd P f args H (.slice (some ⟨H.next, 0, none⟩) k (k + 1)) (H.push (.cells cs 1)) := by
  intro β args' w hsz hv hh
  have ha : args' = args.toArray := by
    apply Array.ext_getElem?
    intro i
    by_cases hj : i < args.length
    · have h1 : args[i]? = some args[i] := List.getElem?_eq_getElem hj
      have h2 : args'[i]? = some args'[i] := Array.getElem?_eq_getElem (by omega)
      rw [h2, List.getElem?_toArray, h1, hi _ (List.getElem_mem hj) β _ (hv i _ _ h1 h2)]
    · rw [Array.getElem?_eq_none (by omega), Array.getElem?_eq_none (by simp; omega)]
  rw [ha]
  refine (h w).mono ?_
  rintro e w' ⟨rfl, rfl⟩
  obtain ⟨k1, k2⟩ := hh.alloc (o := .cells cs.toArray ty) (S := cs.toArray.size) (es := 1) (BR.new (w := w) (e := ty) (es := 1) (C := cs.toArray) (hl β))
  exact ⟨_, rfl, _, _, _, ⟨rfl, rfl⟩, .slice ⟨rfl, rfl, Nat.le_refl _, fun e => by omega, _, Bt.set_same _ _ _, fun B o S es own h => by cases h; exact ⟨rfl, .inr ⟨rfl, fun _ => by simp; omega⟩, fun h => by omega⟩⟩, k1, k2, by show H.next ≤ H.next + 1; omega⟩
theorem id_string (s : ByteArray) : ∀ (β : Bt) v', VR β (.string s) v' → v' = .string s := fun β v' h => h.string_inv
theorem id_int (k : IntKind) (n : Int) : ∀ (β : Bt) v', VR β (.int k n) v' → v' = .int k n := fun β v' h => h.int_inv
end Go.AW
namespace Go.AW
open Go Go.RowKit
set_option linter.unusedVariables false
section
variable {P : Program} {H : AHeap} {ρ : Operand → Value} {g : Option (Nat × Bool)} {d : Option Tmp} {ty : TypeId} {pos : String} {aft : Array Edge}
/-- s[l:h], s[l:], s[:h] of a string. -/
theorem ao_sliceStr2 {t : TypeId} {x lo hi : Operand} {s : ByteArray} {l h : Nat} {k1 k2 : IntKind} {i j : Int} (hu : P.underlying t = some .string) (hx : ρ x = .string s) (hlo : ρ lo = .int k1 i) (hhi : ρ hi = .int k2 j) (hi' : i = (l : Int)) (hj' : j = (h : Int)) (h1 : l ≤ h) (h2 : h ≤ s.size) :
    AOd P ⟨d, .slice t x (some lo) (some hi) none, ty, pos, aft, g⟩ ρ H (.string (s.extract l h)) H :=
  AO.pure fun β ρ' w hv hh => by
    have q1 := hv x (by simp [Op.operands]); rw [hx] at q1
    have q2 := hv lo (by simp [Op.operands]); rw [hlo] at q2
    have q3 := hv hi (by simp [Op.operands]); rw [hhi] at q3
    refine ⟨_, ?_, .string _⟩
    subst hi'; subst hj'
    have := run_slice_string (P := P) (w := w) t s k1 k2 (l : Int) (h : Int) hu (by omega) (by omega) (by omega)
    simp [execOp, q1.string_inv, q2.int_inv, q3.int_inv, go_sem, Instr.sliceAt, underlying, hu, this]
theorem ao_sliceStrHi {t : TypeId} {x hi : Operand} {s : ByteArray} {h : Nat} {k1 : IntKind} {j : Int} (hu : P.underlying t = some .string) (hx : ρ x = .string s) (hhi : ρ hi = .int k1 j) (hj' : j = (h : Int)) (h1 : h ≤ s.size) :
    AOd P ⟨d, .slice t x none (some hi) none, ty, pos, aft, g⟩ ρ H (.string (s.extract 0 h)) H :=
  AO.pure fun β ρ' w hv hh => by
    have q1 := hv x (by simp [Op.operands]); rw [hx] at q1
    have q2 := hv hi (by simp [Op.operands]); rw [hhi] at q2
    refine ⟨_, ?_, .string _⟩
    subst hj'
    have := run_slice_string_h (P := P) (w := w) (t := t) (s := s) hu k1 (h : Int) (by omega) (by omega)
    simp [execOp, q1.string_inv, q2.int_inv, go_sem, Instr.sliceAt, underlying, hu, this]
theorem ao_sliceStrLo {t : TypeId} {x lo : Operand} {s : ByteArray} {l : Nat} {k1 : IntKind} {i : Int} (hu : P.underlying t = some .string) (hx : ρ x = .string s) (hlo : ρ lo = .int k1 i) (hi' : i = (l : Int)) (h1 : l ≤ s.size) :
    AOd P ⟨d, .slice t x (some lo) none none, ty, pos, aft, g⟩ ρ H (.string (s.extract l s.size)) H :=
  AO.pure fun β ρ' w hv hh => by
    have q1 := hv x (by simp [Op.operands]); rw [hx] at q1
    have q2 := hv lo (by simp [Op.operands]); rw [hlo] at q2
    refine ⟨_, ?_, .string _⟩
    subst hi'
    have := run_slice_string_l (P := P) (w := w) (t := t) (s := s) hu k1 (l : Int) (by omega) (by omega)
    simp [execOp, q1.string_inv, q2.int_inv, go_sem, Instr.sliceAt, underlying, hu, this]
end
end Go.AW
namespace Go.AW
open Go Go.RowKit
set_option linter.unusedVariables false
/-- A new block that nobody looks at. -/
theorem HRel.lost {β : Bt} {H : AHeap} {w : World} (h : HRel β H w) (o : Obj) :
    HRel (β.set H.next .stale) ((H.push (.cells [] 1)).kill H.next) (w.alloc o) ∧ Step H.next β w (β.set H.next .stale) (w.alloc o) := by
  have hext := ext_set (t := .stale) h.dom
  have hold : ∀ B, B < w.heap.size → (w.alloc o).heap[B]? = w.heap[B]? := fun B hB => Go.RowKit.Below.heap_alloc _ _ _ hB
  have hgl : Glob (β.set H.next .stale) (w.alloc o) := h.glob.of (fun g hg _ => hold g hg.lt) fun b g o' S' es' hb => by
    by_cases hn : b = H.next
    · subst hn; rw [Bt.set_same] at hb; cases hb
    · rw [Bt.set_ne _ _ hn] at hb; exact .inl ⟨_, _, _, _, hb⟩
  refine ⟨⟨?_, ?_, ?_, ?_, hgl⟩, ⟨hext, ?_, ?_, ?_, rfl, rfl, rfl, by simp, fun B hB _ => hold B hB⟩⟩
  · intro b B o' S' es' own hb
    by_cases hn : b = H.next
    · subst hn; rw [Bt.set_same] at hb; cases hb
    · rw [Bt.set_ne _ _ hn] at hb
      obtain ⟨k', hk', hr⟩ := h.rel b B o' S' es' own hb
      exact ⟨k', (blk_kill_ne hn).trans (blk_push_old hk'), hr.mono hext (hold B (h.lt hb))⟩
  · intro b hb
    by_cases hn : b = H.next
    · subst hn; exact blk_kill_same _ _
    · rw [Bt.set_ne _ _ hn] at hb
      rw [blk_kill_ne hn, blk_push_ne hn]; exact h.stale b hb
  · intro b1 b2 B o1 S1 es1 own1 o2 S2 es2 own2 h1 h2 ho
    by_cases e1 : b1 = H.next
    · subst e1; rw [Bt.set_same] at h1; cases h1
    · by_cases e2 : b2 = H.next
      · subst e2; rw [Bt.set_same] at h2; cases h2
      · rw [Bt.set_ne _ _ e1] at h1; rw [Bt.set_ne _ _ e2] at h2
        exact h.inj b1 b2 B o1 S1 es1 own1 o2 S2 es2 own2 h1 h2 ho
  · intro b hb
    have : H.next + 1 ≤ b := hb
    rw [Bt.set_ne _ _ (by omega)]; exact h.dom b (by omega)
  · intro b hb hn
    rw [Bt.set_ne _ _ (by omega)]; exact hn
  · intro b B o' S' es' hb
    by_cases hn : b = H.next
    · subst hn; rw [Bt.set_same] at hb; cases hb
    · rw [Bt.set_ne _ _ hn] at hb; exact .inl ⟨_, _, _, _, hb⟩
  · intro b B o' S' es' hb
    by_cases hn : b = H.next
    · subst hn; rw [Bt.set_same] at hb; cases hb
    · rw [Bt.set_ne _ _ hn] at hb; exact hb
end Go.AW
namespace Go.AW
open Go Go.RowKit
set_option linter.unusedVariables false
/-- []byte(s): only its length is known. -/
theorem ao_s2b {P : Program} {H : AHeap} {ρ : Operand → Value} {g : Option (Nat × Bool)} {d : Option Tmp} {ty : TypeId} {pos : String} {aft : Array Edge} {src dst e : TypeId} {x : Operand} {s : ByteArray} (hs : P.underlying src = some .string) (hd : P.underlying dst = some (.slice e)) (he : P.underlying e = some (.int .u8)) (hx : ρ x = .string s) :
    AOd P ⟨d, .convert src dst x, ty, pos, aft, g⟩ ρ H (.slice (some ⟨H.next, 0, none⟩) s.size (s.size + 1)) ((H.push (.cells [] 1)).kill H.next) := by
  intro β ρ' w h hh
  have q1 := h x (by simp [Op.operands]); rw [hx] at q1
  have hr := run_bytes_of_string (P := P) w src dst e s hs hd he
  obtain ⟨k1, k2⟩ := hh.drew.lost (.cells (bytesRow s (grownCap w s.size 0 e)) e ((bytesRow s (grownCap w s.size 0 e)).size, (bytesRow s (grownCap w s.size 0 e)).size + 1))
  refine gives_value (v := .slice (some ⟨w.heap.size, 0, none⟩) s.size (grownCap w s.size 0 e)) ?_ ⟨_, _, _, ⟨rfl, rfl⟩, .slice ⟨rfl, rfl, grownCap_ge _ _ _ _, fun e => by omega, _, Bt.set_same _ _ _, fun B o S es own h => by cases h⟩, k1, (Step.drew _ _ _).trans k2 (Nat.le_refl _), by show H.next ≤ H.next + 1; omega⟩
  simp [execOp, q1.string_inv, go_sem, hr]
end Go.AW
