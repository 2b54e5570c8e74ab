/- Tables of the program's types. -/
import Derived.Test.YtkjmcolnoehjbaaRoom2
import Derived.WalkKit
import Derived.Test.YtkjmcolnoehjbaaProg
import Derived.KernelRfl
namespace Go.Proofs.Ytkjmcolnoehjbaa
open Go Go.AW Go.Proofs
set_option maxRecDepth 100000
theorem mo : Try.prog.follows .mixedOrders = true := by kernel_rfl
theorem LEp {p : Prop} (h : p := by (first | exact Nat.le_refl _ | omega | (simp only [next_push, next_set, next_kill]; omega))) : p := h
theorem HLp {H : AHeap} {b : Nat} {k : Option ABlk} (h : H.blk b = k := by ((repeat (first | exact blk_push_new _ _ | assumption | apply blk_push_old | apply blk_set_same | refine (blk_set_ne (by first | assumption | omega | (simp only [next_push, next_set, next_kill, ne_eq]; omega))).trans ?_ | refine (blk_kill_ne (by first | assumption | omega | (simp only [next_push, next_set, next_kill, ne_eq]; omega))).trans ?_)); (first | done | fail))) : H.blk b = k := h
theorem SMp {n : Nat} {H G : AHeap} (h : Same n H G := by (repeat (first | exact Same.refl _ _ | assumption | refine Same.push ?_ (by (first | exact Nat.le_refl _ | omega | (simp only [next_push, next_set, next_kill]; omega))) _ | refine Same.set ?_ (by (first | exact Nat.le_refl _ | omega | (simp only [next_push, next_set, next_kill]; omega))) _ | refine Same.kill ?_ (by (first | exact Nat.le_refl _ | omega | (simp only [next_push, next_set, next_kill]; omega)))))) : Same n H G := h
theorem SRp {H : AHeap} {b : Nat} {k : ABlk} {G : AHeap} (h : SetR H b k G := by (repeat (first | exact SetR.new | exact SetR.same | (apply SetR.old; · exact ⟨_, by ((repeat (first | exact blk_push_new _ _ | assumption | apply blk_push_old | apply blk_set_same | refine (blk_set_ne (by first | assumption | omega | (simp only [next_push, next_set, next_kill, ne_eq]; omega))).trans ?_ | refine (blk_kill_ne (by first | assumption | omega | (simp only [next_push, next_set, next_kill, ne_eq]; omega))).trans ?_)); (first | done | fail))⟩) | exact SetR.base))) : SetR H b k G := h
theorem RFp {p : Prop} (h : p := by first | rfl | (simp; (first | done | fail))) : p := h
theorem IXp {p : Prop} (h : p := by first | omega | decide | (simp; omega)) : p := h
theorem LTp {p : Prop} (h : p := by first | decide | (simp; (first | done | fail)) | (simp; omega)) : p := h
theorem LNp {p : Prop} (h : p := by first | omega | assumption | (simp only [next_push, next_set, next_kill, ne_eq]; omega)) : p := h
theorem BDp {p : Prop} (h : p := by first | omega | decide) : p := h
theorem SCp {H : AHeap} {size : Nat} {v : Value} {m : Nat} {cs : List Value} (h : Src H size v m cs := by first | exact src_all (by ((repeat (first | exact blk_push_new _ _ | assumption | apply blk_push_old | apply blk_set_same | refine (blk_set_ne (by first | assumption | omega | (simp only [next_push, next_set, next_kill, ne_eq]; omega))).trans ?_ | refine (blk_kill_ne (by first | assumption | omega | (simp only [next_push, next_set, next_kill, ne_eq]; omega))).trans ?_)); (first | done | fail))) (by rfl) (by rfl) | exact src_all (by ((repeat (first | exact blk_push_new _ _ | assumption | apply blk_push_old | apply blk_set_same | refine (blk_set_ne (by first | assumption | omega | (simp only [next_push, next_set, next_kill, ne_eq]; omega))).trans ?_ | refine (blk_kill_ne (by first | assumption | omega | (simp only [next_push, next_set, next_kill, ne_eq]; omega))).trans ?_)); (first | done | fail))) (by rfl) (by simp)) : Src H size v m cs := h
theorem fo_26_0 : fieldOff Try.prog 26 0 = some 0 := by kernel_rfl
theorem fo_26_1 : fieldOff Try.prog 26 1 = some 1 := by kernel_rfl
theorem fo_26_2 : fieldOff Try.prog 26 2 = some 2 := by kernel_rfl
theorem fo_28_0 : fieldOff Try.prog 28 0 = some 0 := by kernel_rfl
theorem fo_28_1 : fieldOff Try.prog 28 1 = some 1 := by kernel_rfl
theorem fo_31_0 : fieldOff Try.prog 31 0 = some 0 := by kernel_rfl
theorem fo_31_1 : fieldOff Try.prog 31 1 = some 1 := by kernel_rfl
theorem fo_31_2 : fieldOff Try.prog 31 2 = some 2 := by kernel_rfl
theorem fo_33_0 : fieldOff Try.prog 33 0 = some 0 := by kernel_rfl
theorem fo_33_1 : fieldOff Try.prog 33 1 = some 1 := by kernel_rfl
theorem elz33 : ElemZ Try.prog 33 2 2 (.agg #[.int .i8 0, .int .i8 0]) := elemZ_of (by kernel_rfl) (by rfl) (by rfl)
theorem elem33 : Elem Try.prog 33 2 2 := elz33.elem
theorem elz40 : ElemZ Try.prog 40 1 24 (.slice none 0 0) := elemZ_of (by kernel_rfl) (by rfl) (by rfl)
theorem elem40 : Elem Try.prog 40 1 24 := elz40.elem
theorem eqS33 (x0 x1 y0 y1 : Int) (w : World) : (Op.equalIn 10000 33 (.agg #[.int .i8 x0, .int .i8 x1]) (.agg #[.int .i8 y0, .int .i8 y1])).run Try.prog w = .ok ((x0 == y0) && (x1 == y1)) w := by
  refine seq_all (d := 9999) Try.underlying33 (by kernel_rfl) ?_
  refine seq_more (by rfl) (by go_simp; rfl) (by go_simp; rfl) (by go_simp) ?_
  exact seq_one (by rfl) (by go_simp; rfl) (by go_simp; rfl) (by go_simp)
theorem zv24 (w : World) : (zeroValue 24).run Try.prog w = .ok (.agg ([.int .u16 0, .int .u16 0, .int .u16 0, .int .u16 0, .int .u16 0, .int .u16 0, .int .u16 0, .int .u16 0, .int .u16 0, .int .u16 0] : List Value).toArray) w := Try.zeroValue24 w
theorem zv31 (w : World) : (zeroValue 31).run Try.prog w = .ok (.agg ([.int .i8 0, .int .i8 0, .int .u16 0, .int .u16 0, .int .u16 0, .int .u16 0, .int .u16 0, .int .u16 0, .int .u16 0, .int .u16 0, .int .u16 0, .int .u16 0] : List Value).toArray) w := Try.zeroValue31 w
theorem zv33 (w : World) : (zeroValue 33).run Try.prog w = .ok (.agg ([.int .i8 0, .int .i8 0] : List Value).toArray) w := Try.zeroValue33 w
theorem zv58 (w : World) : (zeroValue 58).run Try.prog w = .ok (.agg ([.int .i64 0, .int .i64 0, .int .i64 0, .int .i64 0, .int .i64 0, .int .i64 0, .int .i64 0, .int .i64 0, .int .i64 0, .int .i64 0, .int .i64 0, .int .i64 0, .int .i64 0, .int .i64 0, .int .i64 0, .int .i64 0, .int .i64 0, .int .i64 0, .int .i64 0, .int .i64 0, .int .i64 0, .int .i64 0, .int .i64 0, .int .i64 0, .int .i64 0, .int .i64 0, .int .i64 0, .int .i64 0, .int .i64 0, .int .i64 0, .int .i64 0, .int .i64 0, .int .i64 0, .int .i64 0, .int .i64 0, .int .i64 0, .int .i64 0, .int .i64 0, .int .i64 0, .int .i64 0, .int .i64 0, .int .i64 0, .int .i64 0, .int .i64 0, .int .i64 0, .int .i64 0, .int .i64 0, .int .i64 0, .int .i64 0, .int .i64 0, .int .i64 0, .int .i64 0, .int .i64 0, .int .i64 0, .int .i64 0, .int .i64 0, .int .i64 0, .int .i64 0, .int .i64 0, .int .i64 0, .int .i64 0, .int .i64 0, .int .i64 0, .int .i64 0, .int .i64 0, .int .i64 0, .int .i64 0, .int .i64 0, .int .i64 0, .int .i64 0, .int .i64 0, .int .i64 0, .int .i64 0, .int .i64 0, .int .i64 0, .int .i64 0, .int .i64 0, .int .i64 0, .int .i64 0, .int .i64 0, .int .i64 0, .int .i64 0, .int .i64 0, .int .i64 0, .int .i64 0, .int .i64 0, .int .i64 0, .int .i64 0, .int .i64 0, .int .i64 0, .int .i64 0, .int .i64 0, .int .i64 0, .int .i64 0, .int .i64 0, .int .i64 0, .int .i64 0, .int .i64 0, .int .i64 0, .int .i64 0] : List Value).toArray) w := Try.zeroValue58 w
end Go.Proofs.Ytkjmcolnoehjbaa
