/- Regions whose order is drawn, order by order. -/
import Derived.Test.YtdcmjbaahcipoaaKit
namespace Go.AW
open Go
set_option linter.unusedVariables false
set_option linter.unusedSectionVars false
set_option linter.unusedSimpArgs false

section
variable {P : Program} {ops : Array Oper} {Q : Exit → AFr → AHeap → Prop} {fr : AFr} {H H1 : AHeap} {fuel : Nat} {listed : Array Bool}
def AA (P : Program) (ops : Array Oper) (Q : Exit → AFr → AHeap → Prop) (fuel : Nat) (listed : Array Bool) (fr : AFr) (H : AHeap) : Prop :=
  ∀ (n : Nat) (β0 : Bt) (w0 : World) (β : Bt) (a : Act) (w : World), Step n β0 w0 β w → n ≤ H.next → FRel β fr a → HRel β H w → wpAny P .any ops (Post n β0 w0 Q) fuel listed a w
def AAo (P : Program) (ops : Array Oper) (Q : Exit → AFr → AHeap → Prop) (fuel : Nat) (listed : Array Bool) (fr : AFr) (H : AHeap) (i : Nat) : Prop :=
  ∀ (n : Nat) (β0 : Bt) (w0 : World) (β : Bt) (a : Act) (w : World), Step n β0 w0 β w → n ≤ H.next → FRel β fr a → HRel β H w →
    wpOp P ops (Post n β0 w0 Q) i (wpAny P .any ops (Post n β0 w0 Q) fuel (listed.setIfInBounds i true)) a w

theorem aa_region {id : Nat} (hmo : P.follows .mixedOrders = true) (h : AA P ops Q ops.size (Array.replicate ops.size false) fr H) : AW P (.region id ops true) Q fr H :=
  fun β a w hf hh => wp_region_any hmo (h H.next β w β a _ (Step.drew _ _ _) (Nat.le_refl _) hf hh.drew)
theorem aa_done (hr : Region.ready .any ops listed = []) (h : Q .normal fr H) : AA P ops Q fuel listed fr H := by
  intro n β0 w0 β a w hs hn hf hh
  have hp : Post n β0 w0 Q .normal a w := ⟨fr, H, β, h, hf, hh, hs, hn⟩
  cases fuel with
  | zero => exact ⟨hr, hp⟩
  | succ fuel => exact ⟨fun _ => hp, by rw [hr]; intro i hi; cases hi⟩
theorem aa_all {rs : List Nat} (hr : Region.ready .any ops listed = rs) (hne : rs ≠ []) (h : ∀ i ∈ rs, AAo P ops Q fuel listed fr H i) : AA P ops Q (fuel + 1) listed fr H := by
  intro n β0 w0 β a w hs hn hf hh
  exact ⟨fun h0 => absurd (hr ▸ h0) hne, fun i hi => h i (hr ▸ hi) n β0 w0 β a w hs hn hf hh⟩
theorem aa_one {i : Nat} (hr : Region.ready .any ops listed = [i]) (h : AAo P ops Q fuel listed fr H i) : AA P ops Q (fuel + 1) listed fr H :=
  aa_all hr (by simp) (by intro j hj; rw [List.mem_singleton.mp hj]; exact h)
theorem aa_two {i j : Nat} (hr : Region.ready .any ops listed = [i, j]) (h : AAo P ops Q fuel listed fr H i) (k : AAo P ops Q fuel listed fr H j) : AA P ops Q (fuel + 1) listed fr H :=
  aa_all hr (by simp) (by
    intro x hx
    rcases List.mem_cons.mp hx with rfl | hx
    · exact h
    · rw [List.mem_singleton.mp hx]; exact k)
theorem aa_o {i : Nat} {o : Oper} {v : Value} (ho : ops[i]? = some o) (hg : o.guard = none) (hx : o.op.operands.toList.all okX = true) (hd : o.dst.all (fun d => Nat.blt d fr.n) = true) (hA : AOd P o fr.ev H v H1)
    (k : AA P ops Q fuel (listed.setIfInBounds i true) (fr.putO o.dst v) H1) : AAo P ops Q fuel listed fr H i := by
  intro n β0 w0 β a w hs hn hf hh
  have hxs : ∀ x ∈ o.op.operands, VR β (fr.ev x) (a.eval x) := fun x hm => hf.ev (List.all_eq_true.1 hx x (by simpa using hm))
  unfold wpOp
  simp only [ho]
  have hw : Region.wanted o (yielded ops a.tmps) = true := by unfold Region.wanted; rw [hg]
  rw [if_pos hw]
  refine .inl (gives_wp (hA β a.eval w hxs hh) ?_)
  rintro v' w' ⟨v1, H', β', ⟨rfl, rfl⟩, hv, hh', hst, hn'⟩
  have hf' : FRel β' (fr.putO o.dst v1) (a.put o.dst v') := by
    have hm := hf.mono hst.ext
    cases hdst : o.dst with
    | none => exact hm
    | some d =>
      rw [hdst] at hd
      exact hm.put (by simpa [Nat.blt_eq] using hd) hv
  exact k n β0 w0 β' _ w' (hs.trans hst hn) (Nat.le_trans hn hn') hf' hh'
end
end Go.AW
