/- Tables of the program's types. -/
import Derived.Test.YtokgcdacdmllbaaRoom2
import Derived.WalkKit
import Derived.Test.YtokgcdacdmllbaaProg
import Derived.KernelRfl
namespace Go.Proofs.Ytokgcdacdmllbaa
open Go Go.AW Go.Proofs
set_option maxRecDepth 100000
theorem mo : Try.prog.follows .mixedOrders = true := by kernel_rfl
theorem fo_42_0 : fieldOff Try.prog 42 0 = some 0 := by kernel_rfl
theorem fo_42_1 : fieldOff Try.prog 42 1 = some 1 := by kernel_rfl
theorem fo_42_2 : fieldOff Try.prog 42 2 = some 2 := by kernel_rfl
theorem fo_44_0 : fieldOff Try.prog 44 0 = some 0 := by kernel_rfl
theorem fo_44_1 : fieldOff Try.prog 44 1 = some 1 := by kernel_rfl
theorem fo_44_2 : fieldOff Try.prog 44 2 = some 2 := by kernel_rfl
theorem fo_61_0 : fieldOff Try.prog 61 0 = some 0 := by kernel_rfl
theorem fo_61_1 : fieldOff Try.prog 61 1 = some 1 := by kernel_rfl
theorem fo_63_0 : fieldOff Try.prog 63 0 = some 0 := by kernel_rfl
theorem fo_63_1 : fieldOff Try.prog 63 1 = some 1 := by kernel_rfl
theorem elz2 : ElemZ Try.prog 2 1 8 (.int .i64 0) := elemZ_of (by kernel_rfl) (by rfl) (by rfl)
theorem elem2 : Elem Try.prog 2 1 8 := elz2.elem
theorem elz5 : ElemZ Try.prog 5 1 1 (.int .u8 0) := elemZ_of (by kernel_rfl) (by rfl) (by rfl)
theorem elem5 : Elem Try.prog 5 1 1 := elz5.elem
theorem elz63 : ElemZ Try.prog 63 2 2 (.agg #[.int .i8 0, .int .i8 0]) := elemZ_of (by kernel_rfl) (by rfl) (by rfl)
theorem elem63 : Elem Try.prog 63 2 2 := elz63.elem
theorem eqS63 (x0 x1 y0 y1 : Int) (w : World) : (Op.equalIn 10000 63 (.agg #[.int .i8 x0, .int .i8 x1]) (.agg #[.int .i8 y0, .int .i8 y1])).run Try.prog w = .ok ((x0 == y0) && (x1 == y1)) w := by
  refine seq_all (d := 9999) Try.underlying63 (by kernel_rfl) ?_
  refine seq_more (by rfl) (by go_simp; rfl) (by go_simp; rfl) (by go_simp) ?_
  exact seq_one (by rfl) (by go_simp; rfl) (by go_simp; rfl) (by go_simp)
theorem zv40 (w : World) : (zeroValue 40).run Try.prog w = .ok (.agg ([.int .u16 0, .int .u16 0, .int .u16 0, .int .u16 0, .int .u16 0, .int .u16 0, .int .u16 0, .int .u16 0, .int .u16 0, .int .u16 0] : List Value).toArray) w := Try.zeroValue40 w
theorem zv44 (w : World) : (zeroValue 44).run Try.prog w = .ok (.agg ([.int .i8 0, .int .i8 0, .int .u16 0, .int .u16 0, .int .u16 0, .int .u16 0, .int .u16 0, .int .u16 0, .int .u16 0, .int .u16 0, .int .u16 0, .int .u16 0] : List Value).toArray) w := Try.zeroValue44 w
theorem zv63 (w : World) : (zeroValue 63).run Try.prog w = .ok (.agg ([.int .i8 0, .int .i8 0] : List Value).toArray) w := Try.zeroValue63 w
end Go.Proofs.Ytokgcdacdmllbaa
