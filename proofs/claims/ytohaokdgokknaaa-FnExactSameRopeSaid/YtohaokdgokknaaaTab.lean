import Derived.Test.YtohaokdgokknaaaTop2
import Derived.Test.YtohaokdgokknaaaProg
import Derived.KernelRfl
namespace Go.Proofs.Ytohaokdgokknaaa
open Go Go.AW Go.Proofs
set_option maxRecDepth 100000
theorem mo : Try.prog.follows .mixedOrders = true := by kernel_rfl
theorem fo_34_0 : fieldOff Try.prog 34 0 = some 0 := by kernel_rfl
theorem fo_34_1 : fieldOff Try.prog 34 1 = some 1 := by kernel_rfl
theorem fo_37_0 : fieldOff Try.prog 37 0 = some 0 := by kernel_rfl
theorem fo_37_1 : fieldOff Try.prog 37 1 = some 1 := by kernel_rfl
theorem elz31 : ElemZ Try.prog 31 1 2 (.int .i16 0) := elemZ_of (by kernel_rfl) (by rfl) (by rfl)
theorem elem31 : Elem Try.prog 31 1 2 := elz31.elem
theorem zv37 (w : World) : (zeroValue 37).run Try.prog w = .ok (.agg ([.int .i16 0, .slice none 0 0] : List Value).toArray) w := Try.zeroValue37 w
end Go.Proofs.Ytohaokdgokknaaa
