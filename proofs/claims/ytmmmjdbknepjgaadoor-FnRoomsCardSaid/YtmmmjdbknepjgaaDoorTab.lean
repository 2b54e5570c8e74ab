/- Tables of the program's types. -/
import Derived.Test.YtmmmjdbknepjgaaDoorGb
import Derived.WalkKit
import Derived.Test.YtmmmjdbknepjgaaDoorProg
import Derived.KernelRfl
namespace Go.Proofs.YtmmmjdbknepjgaaDoor
open Go Go.AW Go.Proofs
set_option maxRecDepth 100000
theorem mo : Tryd.prog.follows .mixedOrders = true := by kernel_rfl
theorem nrm : (∀ (p : Prop) [Decidable p], (decide p = true) = p) ∧ (∀ (p : Prop) [Decidable p], (decide p = false) ↔ ¬ p) ∧ (∀ b : Bool, ((!b) = true) = (b = false)) ∧ (∀ b : Bool, ((!b) = false) = (b = true)) ∧ (∀ a b : Bool, ((a && b) = true) = (a = true ∧ b = true)) ∧ (∀ a b : Bool, ((a || b) = true) = (a = true ∨ b = true)) ∧ (∀ a b : Bool, (a && b) = false ↔ a = false ∨ b = false) ∧ (∀ a b : Bool, (a || b) = false ↔ a = false ∧ b = false) ∧ (∀ p : Prop, ¬ ¬ p ↔ p) ∧ (∀ (α : Type) [BEq α] [LawfulBEq α] (a b : α), (a == b) = true ↔ a = b) ∧ (∀ (α : Type) [BEq α] [LawfulBEq α] (a b : α), (a != b) = true ↔ ¬ a = b) ∧ (∀ (α : Type) [BEq α] [LawfulBEq α] (a b : α), (a == b) = false ↔ ¬ a = b) ∧ (∀ (α : Type) [BEq α] [LawfulBEq α] (a b : α), (a != b) = false ↔ a = b) ∧ (∀ (α : Type) (a b : α), (a ≠ b) = ¬ a = b) ∧ (∀ b : Bool, decide (b = true) = b) :=
  ⟨fun p _ => decide_eq_true_eq, fun p _ => decide_eq_false_iff_not, fun b => Bool.not_eq_true' b, fun b => Bool.not_eq_false' b, fun a b => Bool.and_eq_true a b, fun a b => Bool.or_eq_true a b, fun a b => by cases a <;> cases b <;> simp, fun a b => by cases a <;> cases b <;> simp, fun p => Classical.not_not, fun α _ _ a b => beq_iff_eq, fun α _ _ a b => bne_iff_ne, fun α _ _ a b => beq_eq_false_iff_ne, fun α _ _ a b => bne_eq_false_iff_eq, fun α a b => rfl, fun b => by simp⟩
theorem LEp {p : Prop} (h : p := by (first | exact Nat.le_refl _ | omega | (simp only [next_push, next_set, next_kill]; omega))) : p := h
theorem HLp {H : AHeap} {b : Nat} {k : Option ABlk} (h : H.blk b = k := by ((repeat (first | exact blk_push_new _ _ | assumption | apply blk_push_old | apply blk_set_same | refine (blk_set_ne (by first | assumption | omega | (simp only [next_push, next_set, next_kill, ne_eq]; omega))).trans ?_ | refine (blk_kill_ne (by first | assumption | omega | (simp only [next_push, next_set, next_kill, ne_eq]; omega))).trans ?_)); (first | done | fail))) : H.blk b = k := h
theorem SMp {n : Nat} {H G : AHeap} (h : Same n H G := by (repeat (first | exact Same.refl _ _ | assumption | refine Same.push ?_ (by (first | exact Nat.le_refl _ | omega | (simp only [next_push, next_set, next_kill]; omega))) _ | refine Same.set ?_ (by (first | exact Nat.le_refl _ | omega | (simp only [next_push, next_set, next_kill]; omega))) _ | refine Same.kill ?_ (by (first | exact Nat.le_refl _ | omega | (simp only [next_push, next_set, next_kill]; omega)))))) : Same n H G := h
theorem SRp {H : AHeap} {b : Nat} {k : ABlk} {G : AHeap} (h : SetR H b k G := by (repeat (first | exact SetR.new | exact SetR.same | (apply SetR.old; · exact ⟨_, by ((repeat (first | exact blk_push_new _ _ | assumption | apply blk_push_old | apply blk_set_same | refine (blk_set_ne (by first | assumption | omega | (simp only [next_push, next_set, next_kill, ne_eq]; omega))).trans ?_ | refine (blk_kill_ne (by first | assumption | omega | (simp only [next_push, next_set, next_kill, ne_eq]; omega))).trans ?_)); (first | done | fail))⟩) | exact SetR.base))) : SetR H b k G := h
theorem RFp {p : Prop} (h : p := by first | rfl | (simp; (first | done | fail))) : p := h
theorem IXp {p : Prop} (h : p := by first | omega | decide | (simp; omega)) : p := h
theorem LTp {p : Prop} (h : p := by first | decide | (simp; (first | done | fail)) | (simp; omega)) : p := h
theorem LNp {p : Prop} (h : p := by first | omega | assumption | (simp only [next_push, next_set, next_kill, ne_eq]; omega)) : p := h
theorem BDp {p : Prop} (h : p := by first | omega | decide) : p := h
theorem SCp {H : AHeap} {size : Nat} {v : Value} {m : Nat} {cs : List Value} (h : Src H size v m cs := by first | exact src_all (by ((repeat (first | exact blk_push_new _ _ | assumption | apply blk_push_old | apply blk_set_same | refine (blk_set_ne (by first | assumption | omega | (simp only [next_push, next_set, next_kill, ne_eq]; omega))).trans ?_ | refine (blk_kill_ne (by first | assumption | omega | (simp only [next_push, next_set, next_kill, ne_eq]; omega))).trans ?_)); (first | done | fail))) (by rfl) (by rfl) | exact src_all (by ((repeat (first | exact blk_push_new _ _ | assumption | apply blk_push_old | apply blk_set_same | refine (blk_set_ne (by first | assumption | omega | (simp only [next_push, next_set, next_kill, ne_eq]; omega))).trans ?_ | refine (blk_kill_ne (by first | assumption | omega | (simp only [next_push, next_set, next_kill, ne_eq]; omega))).trans ?_)); (first | done | fail))) (by rfl) (by simp)) : Src H size v m cs := h
theorem fo_28_0 : fieldOff Tryd.prog 28 0 = some 0 := by kernel_rfl
theorem fo_28_1 : fieldOff Tryd.prog 28 1 = some 1 := by kernel_rfl
theorem fo_28_2 : fieldOff Tryd.prog 28 2 = some 2 := by kernel_rfl
theorem fo_48_0 : fieldOff Tryd.prog 48 0 = some 0 := by kernel_rfl
theorem fo_48_1 : fieldOff Tryd.prog 48 1 = some 1 := by kernel_rfl
theorem fo_85_0 : fieldOff Tryd.prog 85 0 = some 0 := by kernel_rfl
theorem fo_85_1 : fieldOff Tryd.prog 85 1 = some 1 := by kernel_rfl
theorem fo_85_2 : fieldOff Tryd.prog 85 2 = some 2 := by kernel_rfl
theorem elz5 : ElemZ Tryd.prog 5 1 1 (.int .u8 0) := elemZ_of (by kernel_rfl) (by rfl) (by rfl)
theorem elem5 : Elem Tryd.prog 5 1 1 := elz5.elem
theorem elz37 : ElemZ Tryd.prog 37 1 24 (.slice none 0 0) := elemZ_of (by kernel_rfl) (by rfl) (by rfl)
theorem elem37 : Elem Tryd.prog 37 1 24 := elz37.elem
theorem elz48 : ElemZ Tryd.prog 48 2 2 (.agg #[.int .i8 0, .int .i8 0]) := elemZ_of (by kernel_rfl) (by rfl) (by rfl)
theorem elem48 : Elem Tryd.prog 48 2 2 := elz48.elem
theorem eqS48 (x0 x1 y0 y1 : Int) (w : World) : (Op.equalIn 10000 48 (.agg #[.int .i8 x0, .int .i8 x1]) (.agg #[.int .i8 y0, .int .i8 y1])).run Tryd.prog w = .ok ((x0 == y0) && (x1 == y1)) w := by
  refine seq_all (d := 9999) Tryd.underlying48 (by kernel_rfl) ?_
  refine seq_more (by rfl) (by go_simp; rfl) (by go_simp; rfl) (by go_simp) ?_
  exact seq_one (by rfl) (by go_simp; rfl) (by go_simp; rfl) (by go_simp)
theorem zv28 (w : World) : (zeroValue 28).run Tryd.prog w = .ok (.agg ([.int .i8 0, .int .i8 0, .int .u16 0, .int .u16 0, .int .u16 0, .int .u16 0, .int .u16 0, .int .u16 0, .int .u16 0, .int .u16 0, .int .u16 0, .int .u16 0] : List Value).toArray) w := Tryd.zeroValue28 w
theorem zv48 (w : World) : (zeroValue 48).run Tryd.prog w = .ok (.agg ([.int .i8 0, .int .i8 0] : List Value).toArray) w := Tryd.zeroValue48 w
theorem zv100 (w : World) : (zeroValue 100).run Tryd.prog w = .ok (.agg ([.int .i64 0, .int .i64 0, .int .i64 0, .int .i64 0, .int .i64 0, .int .i64 0, .int .i64 0, .int .i64 0, .int .i64 0, .int .i64 0, .int .i64 0, .int .i64 0, .int .i64 0, .int .i64 0, .int .i64 0, .int .i64 0, .int .i64 0, .int .i64 0, .int .i64 0, .int .i64 0, .int .i64 0, .int .i64 0, .int .i64 0, .int .i64 0, .int .i64 0, .int .i64 0, .int .i64 0, .int .i64 0, .int .i64 0, .int .i64 0, .int .i64 0, .int .i64 0, .int .i64 0, .int .i64 0, .int .i64 0, .int .i64 0, .int .i64 0, .int .i64 0, .int .i64 0, .int .i64 0, .int .i64 0, .int .i64 0, .int .i64 0, .int .i64 0, .int .i64 0, .int .i64 0, .int .i64 0, .int .i64 0, .int .i64 0, .int .i64 0, .int .i64 0, .int .i64 0, .int .i64 0, .int .i64 0, .int .i64 0, .int .i64 0, .int .i64 0, .int .i64 0, .int .i64 0, .int .i64 0, .int .i64 0, .int .i64 0, .int .i64 0, .int .i64 0, .int .i64 0, .int .i64 0, .int .i64 0, .int .i64 0, .int .i64 0, .int .i64 0, .int .i64 0, .int .i64 0, .int .i64 0, .int .i64 0, .int .i64 0, .int .i64 0, .int .i64 0, .int .i64 0, .int .i64 0, .int .i64 0, .int .i64 0, .int .i64 0, .int .i64 0, .int .i64 0, .int .i64 0, .int .i64 0, .int .i64 0, .int .i64 0, .int .i64 0, .int .i64 0, .int .i64 0, .int .i64 0, .int .i64 0, .int .i64 0, .int .i64 0, .int .i64 0, .int .i64 0, .int .i64 0, .int .i64 0, .int .i64 0] : List Value).toArray) w := Tryd.zeroValue100 w
end Go.Proofs.YtmmmjdbknepjgaaDoor
