/- Regions whose order is drawn: one state for each set of operations that are done. -/
import Derived.Test.YtdcmjbaahcipoaaAny
namespace Go.AW
open Go
set_option linter.unusedVariables false
set_option linter.unusedSectionVars false
section
variable {P : Program} {ops : Array Oper} {Q : Exit → AFr → AHeap → Prop} {fr : AFr} {H H1 : AHeap} {fuel : Nat} {listed : Array Bool}
theorem aw_gen {c : Code} {J : AFr → AHeap → Prop} (hJ : J fr H) (h : ∀ fr H, J fr H → AW P c Q fr H) : AW P c Q fr H := h fr H hJ
theorem aa_slot {d : Nat} {v : Value} (h : fr.get d = v) (k : AA P ops Q fuel listed (fr.put d v) H) : AA P ops Q fuel listed fr H := by rwa [AFr.put_same h] at k
theorem aax1 {i : Nat} (hr : Region.ready .any ops listed = [i]) (h : AAo P ops Q fuel listed fr H i) : AA P ops Q (fuel + 1) listed fr H := aa_one hr h
theorem aax2 {i j : Nat} (hr : Region.ready .any ops listed = [i, j]) (h : AAo P ops Q fuel listed fr H i) (k : AAo P ops Q fuel listed fr H j) : AA P ops Q (fuel + 1) listed fr H := aa_two hr h k
theorem aax3 {i j l : Nat} (hr : Region.ready .any ops listed = [i, j, l]) (h : AAo P ops Q fuel listed fr H i) (k : AAo P ops Q fuel listed fr H j) (m : AAo P ops Q fuel listed fr H l) : AA P ops Q (fuel + 1) listed fr H :=
  aa_all hr (by simp) (by
    intro x hx
    simp only [List.mem_cons, List.not_mem_nil, or_false] at hx
    rcases hx with rfl | rfl | rfl <;> assumption)
theorem aax4 {i j l o : Nat} (hr : Region.ready .any ops listed = [i, j, l, o]) (h : AAo P ops Q fuel listed fr H i) (k : AAo P ops Q fuel listed fr H j) (m : AAo P ops Q fuel listed fr H l) (n : AAo P ops Q fuel listed fr H o) : AA P ops Q (fuel + 1) listed fr H :=
  aa_all hr (by simp) (by
    intro x hx
    simp only [List.mem_cons, List.not_mem_nil, or_false] at hx
    rcases hx with rfl | rfl | rfl | rfl <;> assumption)
theorem aax5 {i j l o p : Nat} (hr : Region.ready .any ops listed = [i, j, l, o, p]) (h : AAo P ops Q fuel listed fr H i) (k : AAo P ops Q fuel listed fr H j) (m : AAo P ops Q fuel listed fr H l) (n : AAo P ops Q fuel listed fr H o) (q : AAo P ops Q fuel listed fr H p) : AA P ops Q (fuel + 1) listed fr H :=
  aa_all hr (by simp) (by
    intro x hx
    simp only [List.mem_cons, List.not_mem_nil, or_false] at hx
    rcases hx with rfl | rfl | rfl | rfl | rfl <;> assumption)
theorem aa_oL {listed' : Array Bool} {i : Nat} {o : Oper} {v : Value} (ho : ops[i]? = some o) (hg : o.guard = none) (hx : o.op.operands.toList.all okX = true) (hd : o.dst.all (fun d => Nat.blt d fr.n) = true) (hl : listed.setIfInBounds i true = listed') (hA : AOd P o fr.ev H v H1)
    (k : AA P ops Q fuel listed' (fr.putO o.dst v) H1) : AAo P ops Q fuel listed fr H i := by
  subst hl; exact aa_o ho hg hx hd hA k
end
end Go.AW
