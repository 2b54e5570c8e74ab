/- Tables of the program's types. -/
import Derived.Test.YtkpimjhacjfgfaaRoom2
import Derived.WalkKit
import Derived.Test.YtkpimjhacjfgfaaProg
import Derived.KernelRfl
namespace Go.Proofs.Ytkpimjhacjfgfaa
open Go Go.AW Go.Proofs
set_option maxRecDepth 100000
theorem mo : Try.prog.follows .mixedOrders = true := by kernel_rfl
theorem fo_26_0 : fieldOff Try.prog 26 0 = some 0 := by kernel_rfl
theorem fo_26_1 : fieldOff Try.prog 26 1 = some 1 := by kernel_rfl
theorem fo_26_2 : fieldOff Try.prog 26 2 = some 2 := by kernel_rfl
theorem fo_28_0 : fieldOff Try.prog 28 0 = some 0 := by kernel_rfl
theorem fo_28_1 : fieldOff Try.prog 28 1 = some 1 := by kernel_rfl
theorem fo_28_2 : fieldOff Try.prog 28 2 = some 2 := by kernel_rfl
theorem fo_37_0 : fieldOff Try.prog 37 0 = some 0 := by kernel_rfl
theorem fo_37_1 : fieldOff Try.prog 37 1 = some 1 := by kernel_rfl
theorem fo_38_0 : fieldOff Try.prog 38 0 = some 0 := by kernel_rfl
theorem fo_38_1 : fieldOff Try.prog 38 1 = some 1 := by kernel_rfl
theorem elz5 : ElemZ Try.prog 5 1 1 (.int .u8 0) := elemZ_of (by kernel_rfl) (by rfl) (by rfl)
theorem elem5 : Elem Try.prog 5 1 1 := elz5.elem
theorem elz38 : ElemZ Try.prog 38 2 2 (.agg #[.int .i8 0, .int .i8 0]) := elemZ_of (by kernel_rfl) (by rfl) (by rfl)
theorem elem38 : Elem Try.prog 38 2 2 := elz38.elem
theorem eqS38 (x0 x1 y0 y1 : Int) (w : World) : (Op.equalIn 10000 38 (.agg #[.int .i8 x0, .int .i8 x1]) (.agg #[.int .i8 y0, .int .i8 y1])).run Try.prog w = .ok ((x0 == y0) && (x1 == y1)) w := by
  refine seq_all (d := 9999) Try.underlying38 (by kernel_rfl) ?_
  refine seq_more (by rfl) (by go_simp; rfl) (by go_simp; rfl) (by go_simp) ?_
  exact seq_one (by rfl) (by go_simp; rfl) (by go_simp; rfl) (by go_simp)
theorem zv24 (w : World) : (zeroValue 24).run Try.prog w = .ok (.agg ([.int .u16 0, .int .u16 0, .int .u16 0, .int .u16 0, .int .u16 0, .int .u16 0, .int .u16 0, .int .u16 0, .int .u16 0, .int .u16 0] : List Value).toArray) w := Try.zeroValue24 w
theorem zv28 (w : World) : (zeroValue 28).run Try.prog w = .ok (.agg ([.int .i8 0, .int .i8 0, .int .u16 0, .int .u16 0, .int .u16 0, .int .u16 0, .int .u16 0, .int .u16 0, .int .u16 0, .int .u16 0, .int .u16 0, .int .u16 0] : List Value).toArray) w := Try.zeroValue28 w
theorem zv38 (w : World) : (zeroValue 38).run Try.prog w = .ok (.agg ([.int .i8 0, .int .i8 0] : List Value).toArray) w := Try.zeroValue38 w
theorem zv60 (w : World) : (zeroValue 60).run Try.prog w = .ok (.agg ([.int .i64 0, .int .i64 0, .int .i64 0, .int .i64 0] : List Value).toArray) w := Try.zeroValue60 w
end Go.Proofs.Ytkpimjhacjfgfaa
