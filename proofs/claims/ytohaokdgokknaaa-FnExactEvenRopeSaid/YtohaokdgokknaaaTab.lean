/- Tables of the program's types. -/
import Derived.Test.YtohaokdgokknaaaPure2
import Derived.WalkKit
import Derived.Test.YtohaokdgokknaaaProg
import Derived.KernelRfl
namespace Go.Proofs.Ytohaokdgokknaaa
open Go Go.AW Go.Proofs
set_option maxRecDepth 100000
theorem mo : Try.prog.follows .mixedOrders = true := by kernel_rfl
theorem fo_34_0 : fieldOff Try.prog 34 0 = some 0 := by kernel_rfl
theorem fo_34_1 : fieldOff Try.prog 34 1 = some 1 := by kernel_rfl
theorem fo_37_0 : fieldOff Try.prog 37 0 = some 0 := by kernel_rfl
theorem fo_37_1 : fieldOff Try.prog 37 1 = some 1 := by kernel_rfl
theorem fo_81_0 : fieldOff Try.prog 81 0 = some 0 := by kernel_rfl
theorem fo_81_1 : fieldOff Try.prog 81 1 = some 1 := by kernel_rfl
theorem fo_83_0 : fieldOff Try.prog 83 0 = some 0 := by kernel_rfl
theorem fo_83_1 : fieldOff Try.prog 83 1 = some 1 := by kernel_rfl
theorem fo_101_0 : fieldOff Try.prog 101 0 = some 0 := by kernel_rfl
theorem fo_101_1 : fieldOff Try.prog 101 1 = some 1 := by kernel_rfl
theorem fo_104_0 : fieldOff Try.prog 104 0 = some 0 := by kernel_rfl
theorem fo_104_1 : fieldOff Try.prog 104 1 = some 1 := by kernel_rfl
theorem elz2 : ElemZ Try.prog 2 1 8 (.int .i64 0) := elemZ_of (by kernel_rfl) (by rfl) (by rfl)
theorem elem2 : Elem Try.prog 2 1 8 := elz2.elem
theorem elz31 : ElemZ Try.prog 31 1 2 (.int .i16 0) := elemZ_of (by kernel_rfl) (by rfl) (by rfl)
theorem elem31 : Elem Try.prog 31 1 2 := elz31.elem
theorem elz81 : ElemZ Try.prog 81 2 4 (.agg #[.int .i16 0, .int .i8 0]) := elemZ_of (by kernel_rfl) (by rfl) (by rfl)
theorem elem81 : Elem Try.prog 81 2 4 := elz81.elem
theorem elz101 : ElemZ Try.prog 101 2 16 (.agg #[.int .i64 0, .int .i64 0]) := elemZ_of (by kernel_rfl) (by rfl) (by rfl)
theorem elem101 : Elem Try.prog 101 2 16 := elz101.elem
theorem eqS81 (x0 x1 y0 y1 : Int) (w : World) : (Op.equalIn 10000 81 (.agg #[.int .i16 x0, .int .i8 x1]) (.agg #[.int .i16 y0, .int .i8 y1])).run Try.prog w = .ok ((x0 == y0) && (x1 == y1)) w := by
  refine seq_all (d := 9999) Try.underlying81 (by kernel_rfl) ?_
  refine seq_more (by rfl) (by go_simp; rfl) (by go_simp; rfl) (by go_simp) ?_
  exact seq_one (by rfl) (by go_simp; rfl) (by go_simp; rfl) (by go_simp)
theorem eqS101 (x0 x1 y0 y1 : Int) (w : World) : (Op.equalIn 10000 101 (.agg #[.int .i64 x0, .int .i64 x1]) (.agg #[.int .i64 y0, .int .i64 y1])).run Try.prog w = .ok ((x0 == y0) && (x1 == y1)) w := by
  refine seq_all (d := 9999) Try.underlying101 (by kernel_rfl) ?_
  refine seq_more (by rfl) (by go_simp; rfl) (by go_simp; rfl) (by go_simp) ?_
  exact seq_one (by rfl) (by go_simp; rfl) (by go_simp; rfl) (by go_simp)
theorem zv37 (w : World) : (zeroValue 37).run Try.prog w = .ok (.agg ([.int .i16 0, .slice none 0 0] : List Value).toArray) w := Try.zeroValue37 w
theorem zv81 (w : World) : (zeroValue 81).run Try.prog w = .ok (.agg ([.int .i16 0, .int .i8 0] : List Value).toArray) w := Try.zeroValue81 w
theorem zv101 (w : World) : (zeroValue 101).run Try.prog w = .ok (.agg ([.int .i64 0, .int .i64 0] : List Value).toArray) w := Try.zeroValue101 w
end Go.Proofs.Ytohaokdgokknaaa
