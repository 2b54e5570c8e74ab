/- Contracts of the program's functions over abstract heaps. -/
import Derived.Test.YtdcmjbaahcipoaaDag2
import Derived.Test.YtdcmjbaahcipoaaCt
namespace Go.Proofs.Ytdcmjbaahcipoaa
open Go Go.AW Go.Proofs
set_option linter.unusedVariables false
set_option linter.unusedSimpArgs false
set_option maxRecDepth 100000
set_option maxHeartbeats 2000000

def ops_q9 : Array Oper := #[(Go.Oper.mk (some 44) (Go.Op.move (Go.Operand.tmp 8)) 22 "l03_ropes.go:97" #[] none), (Go.Oper.mk (some 45) (Go.Op.fieldAddr 27 (Go.Operand.tmp 2) 1) 0 "l03_ropes.go:97" #[] none), (Go.Oper.mk (some 46) (Go.Op.load 23 (Go.Operand.tmp 45)) 23 "l03_ropes.go:97" #[(Go.Edge.mk 1 Go.Ground.data)] none), (Go.Oper.mk (some 47) (Go.Op.move (Go.Operand.tmp 1)) 2 "l03_ropes.go:97" #[] none), (Go.Oper.mk (some 48) (Go.Op.binOp Go.BinOp.add 2 (Go.Operand.tmp 47) (Go.Operand.const (Go.Value.int Go.IntKind.i64 1)) 2) 2 "l03_ropes.go:97" #[(Go.Edge.mk 3 Go.Ground.data)] none), (Go.Oper.mk (some 49) (Go.Op.slice 23 (Go.Operand.tmp 46) none (some (Go.Operand.tmp 48)) none) 23 "l03_ropes.go:97" #[(Go.Edge.mk 2 Go.Ground.data), (Go.Edge.mk 4 Go.Ground.data)] none), (Go.Oper.mk (some 50) (Go.Op.call (Go.Call.mk (Go.Callee.value (Go.Operand.func 26)) #[(Go.Operand.tmp 49)] #[23])) 23 "l03_ropes.go:97" #[(Go.Edge.mk 5 Go.Ground.data)] none), (Go.Oper.mk (some 51) (Go.Op.build 27 #[(0, (Go.Operand.tmp 44)), (1, (Go.Operand.tmp 50))]) 27 "l03_ropes.go:97" #[(Go.Edge.mk 0 Go.Ground.data), (Go.Edge.mk 6 Go.Ground.data)] none), (Go.Oper.mk (some 52) (Go.Op.fieldAddr 27 (Go.Operand.tmp 2) 0) 0 "l03_ropes.go:97" #[(Go.Edge.mk 20 (Go.Ground.gcOnly Go.Departure.lateStores))] none), (Go.Oper.mk (some 53) (Go.Op.load 22 (Go.Operand.tmp 52)) 22 "l03_ropes.go:97" #[(Go.Edge.mk 8 Go.Ground.data), (Go.Edge.mk 20 (Go.Ground.gcOnly Go.Departure.lateStores))] none), (Go.Oper.mk (some 54) (Go.Op.move (Go.Operand.tmp 8)) 22 "l03_ropes.go:97" #[(Go.Edge.mk 20 (Go.Ground.gcOnly Go.Departure.lateStores))] none), (Go.Oper.mk (some 55) (Go.Op.binOp Go.BinOp.sub 22 (Go.Operand.tmp 53) (Go.Operand.tmp 54) 22) 22 "l03_ropes.go:97" #[(Go.Edge.mk 9 Go.Ground.data), (Go.Edge.mk 10 Go.Ground.data), (Go.Edge.mk 20 (Go.Ground.gcOnly Go.Departure.lateStores))] none), (Go.Oper.mk (some 56) (Go.Op.fieldAddr 27 (Go.Operand.tmp 2) 1) 0 "l03_ropes.go:97" #[] none), (Go.Oper.mk (some 57) (Go.Op.load 23 (Go.Operand.tmp 56)) 23 "l03_ropes.go:97" #[(Go.Edge.mk 12 Go.Ground.data)] none), (Go.Oper.mk (some 58) (Go.Op.move (Go.Operand.tmp 1)) 2 "l03_ropes.go:97" #[] none), (Go.Oper.mk (some 59) (Go.Op.slice 23 (Go.Operand.tmp 57) (some (Go.Operand.tmp 58)) none none) 23 "l03_ropes.go:97" #[(Go.Edge.mk 13 Go.Ground.data), (Go.Edge.mk 14 Go.Ground.data)] none), (Go.Oper.mk (some 60) (Go.Op.call (Go.Call.mk (Go.Callee.value (Go.Operand.func 26)) #[(Go.Operand.tmp 59)] #[23])) 23 "l03_ropes.go:97" #[(Go.Edge.mk 15 Go.Ground.data), (Go.Edge.mk 6 Go.Ground.chain)] none), (Go.Oper.mk (some 61) (Go.Op.build 27 #[(0, (Go.Operand.tmp 55)), (1, (Go.Operand.tmp 60))]) 27 "l03_ropes.go:97" #[(Go.Edge.mk 11 Go.Ground.data), (Go.Edge.mk 16 Go.Ground.data), (Go.Edge.mk 20 (Go.Ground.gcOnly Go.Departure.lateStores))] none), (Go.Oper.mk (some 9) (Go.Op.alloc 27) 0 "l03_ropes.go:97" #[] none), (Go.Oper.mk (some 10) (Go.Op.alloc 27) 0 "l03_ropes.go:97" #[] none), (Go.Oper.mk none (Go.Op.store 27 (Go.Operand.tmp 9) (Go.Operand.tmp 51)) 0 "l03_ropes.go:97" #[(Go.Edge.mk 18 Go.Ground.data), (Go.Edge.mk 7 Go.Ground.data), (Go.Edge.mk 16 Go.Ground.chain), (Go.Edge.mk 0 Go.Ground.phase), (Go.Edge.mk 1 Go.Ground.phase), (Go.Edge.mk 2 Go.Ground.phase), (Go.Edge.mk 3 Go.Ground.phase), (Go.Edge.mk 4 Go.Ground.phase), (Go.Edge.mk 5 Go.Ground.phase), (Go.Edge.mk 6 Go.Ground.phase), (Go.Edge.mk 7 Go.Ground.phase), (Go.Edge.mk 8 (Go.Ground.textOnly Go.Departure.lateStores)), (Go.Edge.mk 9 (Go.Ground.textOnly Go.Departure.lateStores)), (Go.Edge.mk 10 (Go.Ground.textOnly Go.Departure.lateStores)), (Go.Edge.mk 11 (Go.Ground.textOnly Go.Departure.lateStores)), (Go.Edge.mk 12 (Go.Ground.textOnly Go.Departure.lateStores)), (Go.Edge.mk 13 (Go.Ground.textOnly Go.Departure.lateStores)), (Go.Edge.mk 14 (Go.Ground.textOnly Go.Departure.lateStores)), (Go.Edge.mk 15 (Go.Ground.textOnly Go.Departure.lateStoresUnsure)), (Go.Edge.mk 16 (Go.Ground.textOnly Go.Departure.lateStoresUnsure)), (Go.Edge.mk 17 (Go.Ground.textOnly Go.Departure.lateStores)), (Go.Edge.mk 18 Go.Ground.phase), (Go.Edge.mk 19 Go.Ground.phase)] none), (Go.Oper.mk none (Go.Op.store 27 (Go.Operand.tmp 10) (Go.Operand.tmp 61)) 0 "l03_ropes.go:97" #[(Go.Edge.mk 19 Go.Ground.data), (Go.Edge.mk 17 Go.Ground.data), (Go.Edge.mk 20 Go.Ground.chain), (Go.Edge.mk 0 Go.Ground.phase), (Go.Edge.mk 1 Go.Ground.phase), (Go.Edge.mk 2 Go.Ground.phase), (Go.Edge.mk 3 Go.Ground.phase), (Go.Edge.mk 4 Go.Ground.phase), (Go.Edge.mk 5 Go.Ground.phase), (Go.Edge.mk 6 Go.Ground.phase), (Go.Edge.mk 7 Go.Ground.phase), (Go.Edge.mk 8 Go.Ground.phase), (Go.Edge.mk 9 Go.Ground.phase), (Go.Edge.mk 10 Go.Ground.phase), (Go.Edge.mk 11 Go.Ground.phase), (Go.Edge.mk 12 Go.Ground.phase), (Go.Edge.mk 13 Go.Ground.phase), (Go.Edge.mk 14 Go.Ground.phase), (Go.Edge.mk 15 Go.Ground.phase), (Go.Edge.mk 16 Go.Ground.phase), (Go.Edge.mk 17 Go.Ground.phase), (Go.Edge.mk 18 Go.Ground.phase), (Go.Edge.mk 19 Go.Ground.phase), (Go.Edge.mk 20 Go.Ground.phase)] none)]
abbrev q9_l0 : Array Bool := #[true, true, true, true, true, true, true, true, true, true, true, true, true, true, true, true, true, true, true, true, true, true]
abbrev q9_l1 : Array Bool := #[true, true, true, true, true, true, true, true, true, true, true, true, true, true, true, true, true, true, true, true, true, false]
abbrev q9_l2 : Array Bool := #[true, true, true, true, true, true, true, true, true, true, true, true, true, true, true, true, true, true, true, true, false, false]
abbrev q9_l3 : Array Bool := #[true, true, true, true, true, true, true, true, true, true, true, true, true, true, true, true, true, true, true, false, false, false]
abbrev q9_l4 : Array Bool := #[true, true, true, true, true, true, true, true, true, true, true, true, true, true, true, true, true, true, false, true, false, false]
abbrev q9_l5 : Array Bool := #[true, true, true, true, true, true, true, true, true, true, true, true, true, true, true, true, true, true, false, false, false, false]
abbrev q9_l6 : Array Bool := #[true, true, true, true, true, true, true, true, true, true, true, true, true, true, true, true, false, false, true, true, false, false]
abbrev q9_l7 : Array Bool := #[true, true, true, true, true, true, true, true, true, true, true, true, true, true, true, true, true, false, true, true, false, false]
abbrev q9_l8 : Array Bool := #[true, true, true, true, true, true, true, true, true, false, true, false, true, true, true, true, true, false, true, true, true, false]
abbrev q9_l9 : Array Bool := #[true, true, true, true, true, true, true, true, true, true, true, true, true, true, true, true, true, false, true, true, true, false]
abbrev q9_l10 : Array Bool := #[true, true, true, true, true, true, true, true, true, true, true, false, true, true, true, true, true, false, true, true, true, false]
abbrev q9_l11 : Array Bool := #[true, true, true, true, true, true, true, true, true, true, true, true, true, true, true, true, false, false, true, false, false, false]
abbrev q9_l12 : Array Bool := #[true, true, true, true, true, true, true, true, true, true, true, true, true, true, true, true, true, false, true, false, false, false]
abbrev q9_l13 : Array Bool := #[true, true, true, true, true, true, true, true, true, true, true, true, true, true, true, true, false, false, false, true, false, false]
abbrev q9_l14 : Array Bool := #[true, true, true, true, true, true, true, true, true, true, true, true, true, true, true, true, true, false, false, true, false, false]
abbrev q9_l15 : Array Bool := #[true, true, true, true, true, true, true, true, true, false, true, false, true, true, true, true, true, false, true, true, false, false]
abbrev q9_l16 : Array Bool := #[true, true, true, true, true, true, true, true, true, true, true, false, true, true, true, true, true, false, true, true, false, false]
abbrev q9_l17 : Array Bool := #[true, true, true, true, true, true, true, true, true, true, true, true, true, true, true, true, false, false, false, false, false, false]
abbrev q9_l18 : Array Bool := #[true, true, true, true, true, true, true, true, true, true, true, true, true, true, true, true, true, false, false, false, false, false]
abbrev q9_l19 : Array Bool := #[true, true, true, true, true, true, true, true, true, true, true, true, true, false, true, false, false, false, true, true, false, false]
abbrev q9_l20 : Array Bool := #[true, true, true, true, true, true, true, true, true, true, true, true, true, true, true, false, false, false, true, true, false, false]
abbrev q9_l21 : Array Bool := #[true, true, true, true, true, true, true, true, true, false, true, false, true, true, true, true, true, false, true, false, false, false]
abbrev q9_l22 : Array Bool := #[true, true, true, true, true, true, true, true, true, true, true, false, true, true, true, true, true, false, true, false, false, false]
abbrev q9_l23 : Array Bool := #[true, true, true, true, true, true, true, true, true, false, true, false, true, true, true, true, true, false, false, true, false, false]
abbrev q9_l24 : Array Bool := #[true, true, true, true, true, true, true, true, true, true, true, false, true, true, true, true, true, false, false, true, false, false]
abbrev q9_l25 : Array Bool := #[true, true, true, true, true, true, true, true, true, false, true, false, true, true, true, true, false, false, true, true, false, false]
abbrev q9_l26 : Array Bool := #[true, true, true, true, true, true, true, true, true, true, true, false, true, true, true, true, false, false, true, true, false, false]
abbrev q9_l27 : Array Bool := #[true, true, true, true, true, true, false, false, true, true, true, true, true, true, true, true, false, false, true, true, false, false]
abbrev q9_l28 : Array Bool := #[true, true, true, true, true, true, true, false, true, true, true, true, true, true, true, true, false, false, true, true, false, false]
abbrev q9_l29 : Array Bool := #[true, true, true, true, true, true, true, true, true, true, true, true, true, false, true, false, false, false, true, false, false, false]
abbrev q9_l30 : Array Bool := #[true, true, true, true, true, true, true, true, true, true, true, true, true, true, true, false, false, false, true, false, false, false]
abbrev q9_l31 : Array Bool := #[true, true, true, true, true, true, true, true, true, true, true, true, true, false, true, false, false, false, false, true, false, false]
abbrev q9_l32 : Array Bool := #[true, true, true, true, true, true, true, true, true, true, true, true, true, true, true, false, false, false, false, true, false, false]
abbrev q9_l33 : Array Bool := #[true, true, true, true, true, true, true, true, true, false, true, false, true, true, true, true, true, false, false, false, false, false]
abbrev q9_l34 : Array Bool := #[true, true, true, true, true, true, true, true, true, true, true, false, true, true, true, true, true, false, false, false, false, false]
abbrev q9_l35 : Array Bool := #[true, true, true, true, true, true, true, true, true, false, true, false, true, true, true, true, false, false, true, false, false, false]
abbrev q9_l36 : Array Bool := #[true, true, true, true, true, true, true, true, true, true, true, false, true, true, true, true, false, false, true, false, false, false]
abbrev q9_l37 : Array Bool := #[true, true, true, true, true, true, true, true, true, false, true, false, true, true, true, true, false, false, false, true, false, false]
abbrev q9_l38 : Array Bool := #[true, true, true, true, true, true, true, true, true, true, true, false, true, true, true, true, false, false, false, true, false, false]
abbrev q9_l39 : Array Bool := #[true, true, true, true, true, true, false, false, true, true, true, true, true, true, true, true, false, false, true, false, false, false]
abbrev q9_l40 : Array Bool := #[true, true, true, true, true, true, true, false, true, true, true, true, true, true, true, true, false, false, true, false, false, false]
abbrev q9_l41 : Array Bool := #[true, true, true, true, true, true, false, false, true, true, true, true, true, true, true, true, false, false, false, true, false, false]
abbrev q9_l42 : Array Bool := #[true, true, true, true, true, true, true, false, true, true, true, true, true, true, true, true, false, false, false, true, false, false]
abbrev q9_l43 : Array Bool := #[true, true, true, true, true, true, true, true, true, true, true, true, true, false, true, false, false, false, false, false, false, false]
abbrev q9_l44 : Array Bool := #[true, true, true, true, true, true, true, true, true, true, true, true, true, true, true, false, false, false, false, false, false, false]
abbrev q9_l45 : Array Bool := #[true, true, true, true, true, true, true, true, true, false, true, false, true, true, true, true, false, false, false, false, false, false]
abbrev q9_l46 : Array Bool := #[true, true, true, true, true, true, true, true, true, true, true, false, true, true, true, true, false, false, false, false, false, false]
abbrev q9_l47 : Array Bool := #[true, true, true, true, true, true, true, true, true, false, true, false, true, false, true, false, false, false, true, true, false, false]
abbrev q9_l48 : Array Bool := #[true, true, true, true, true, true, true, true, true, true, true, false, true, false, true, false, false, false, true, true, false, false]
abbrev q9_l49 : Array Bool := #[true, true, true, true, true, true, true, true, true, false, true, false, true, true, true, false, false, false, true, true, false, false]
abbrev q9_l50 : Array Bool := #[true, true, true, true, true, true, false, false, true, true, true, true, true, true, true, true, false, false, false, false, false, false]
abbrev q9_l51 : Array Bool := #[true, true, true, true, true, true, true, false, true, true, true, true, true, true, true, true, false, false, false, false, false, false]
abbrev q9_l52 : Array Bool := #[true, true, true, true, true, true, false, false, true, true, true, true, true, false, true, false, false, false, true, true, false, false]
abbrev q9_l53 : Array Bool := #[true, true, true, true, true, true, true, false, true, true, true, true, true, false, true, false, false, false, true, true, false, false]
abbrev q9_l54 : Array Bool := #[true, true, true, true, true, true, false, false, true, true, true, true, true, true, true, false, false, false, true, true, false, false]
abbrev q9_l55 : Array Bool := #[true, true, true, true, true, true, false, false, true, false, true, false, true, true, true, true, false, false, true, true, false, false]
abbrev q9_l56 : Array Bool := #[true, true, true, true, true, true, true, false, true, false, true, false, true, true, true, true, false, false, true, true, false, false]
abbrev q9_l57 : Array Bool := #[true, true, true, true, true, true, false, false, true, true, true, false, true, true, true, true, false, false, true, true, false, false]
abbrev q9_l58 : Array Bool := #[true, true, false, true, true, false, false, false, true, true, true, true, true, true, true, true, false, false, true, true, false, false]
abbrev q9_l59 : Array Bool := #[true, true, true, true, true, false, false, false, true, true, true, true, true, true, true, true, false, false, true, true, false, false]
abbrev q9_l60 : Array Bool := #[true, true, true, true, true, true, true, true, true, false, true, false, true, false, true, false, false, false, true, false, false, false]
abbrev q9_l61 : Array Bool := #[true, true, true, true, true, true, true, true, true, true, true, false, true, false, true, false, false, false, true, false, false, false]
abbrev q9_l62 : Array Bool := #[true, true, true, true, true, true, true, true, true, false, true, false, true, true, true, false, false, false, true, false, false, false]
abbrev q9_l63 : Array Bool := #[true, true, true, true, true, true, true, true, true, false, true, false, true, false, true, false, false, false, false, true, false, false]
abbrev q9_l64 : Array Bool := #[true, true, true, true, true, true, true, true, true, true, true, false, true, false, true, false, false, false, false, true, false, false]
abbrev q9_l65 : Array Bool := #[true, true, true, true, true, true, true, true, true, false, true, false, true, true, true, false, false, false, false, true, false, false]
abbrev q9_l66 : Array Bool := #[true, true, true, true, true, true, false, false, true, true, true, true, true, false, true, false, false, false, true, false, false, false]
abbrev q9_l67 : Array Bool := #[true, true, true, true, true, true, true, false, true, true, true, true, true, false, true, false, false, false, true, false, false, false]
abbrev q9_l68 : Array Bool := #[true, true, true, true, true, true, false, false, true, true, true, true, true, true, true, false, false, false, true, false, false, false]
abbrev q9_l69 : Array Bool := #[true, true, true, true, true, true, false, false, true, true, true, true, true, false, true, false, false, false, false, true, false, false]
abbrev q9_l70 : Array Bool := #[true, true, true, true, true, true, true, false, true, true, true, true, true, false, true, false, false, false, false, true, false, false]
abbrev q9_l71 : Array Bool := #[true, true, true, true, true, true, false, false, true, true, true, true, true, true, true, false, false, false, false, true, false, false]
abbrev q9_l72 : Array Bool := #[true, true, true, true, true, true, false, false, true, false, true, false, true, true, true, true, false, false, true, false, false, false]
abbrev q9_l73 : Array Bool := #[true, true, true, true, true, true, true, false, true, false, true, false, true, true, true, true, false, false, true, false, false, false]
abbrev q9_l74 : Array Bool := #[true, true, true, true, true, true, false, false, true, true, true, false, true, true, true, true, false, false, true, false, false, false]
abbrev q9_l75 : Array Bool := #[true, true, true, true, true, true, false, false, true, false, true, false, true, true, true, true, false, false, false, true, false, false]
abbrev q9_l76 : Array Bool := #[true, true, true, true, true, true, true, false, true, false, true, false, true, true, true, true, false, false, false, true, false, false]
abbrev q9_l77 : Array Bool := #[true, true, true, true, true, true, false, false, true, true, true, false, true, true, true, true, false, false, false, true, false, false]
abbrev q9_l78 : Array Bool := #[true, true, false, true, true, false, false, false, true, true, true, true, true, true, true, true, false, false, true, false, false, false]
abbrev q9_l79 : Array Bool := #[true, true, true, true, true, false, false, false, true, true, true, true, true, true, true, true, false, false, true, false, false, false]
abbrev q9_l80 : Array Bool := #[true, true, false, true, true, false, false, false, true, true, true, true, true, true, true, true, false, false, false, true, false, false]
abbrev q9_l81 : Array Bool := #[true, true, true, true, true, false, false, false, true, true, true, true, true, true, true, true, false, false, false, true, false, false]
abbrev q9_l82 : Array Bool := #[true, true, true, true, true, true, true, true, true, false, true, false, true, false, true, false, false, false, false, false, false, false]
abbrev q9_l83 : Array Bool := #[true, true, true, true, true, true, true, true, true, true, true, false, true, false, true, false, false, false, false, false, false, false]
abbrev q9_l84 : Array Bool := #[true, true, true, true, true, true, true, true, true, false, true, false, true, true, true, false, false, false, false, false, false, false]
abbrev q9_l85 : Array Bool := #[true, true, true, true, true, true, false, false, true, true, true, true, true, false, true, false, false, false, false, false, false, false]
abbrev q9_l86 : Array Bool := #[true, true, true, true, true, true, true, false, true, true, true, true, true, false, true, false, false, false, false, false, false, false]
abbrev q9_l87 : Array Bool := #[true, true, true, true, true, true, false, false, true, true, true, true, true, true, true, false, false, false, false, false, false, false]
abbrev q9_l88 : Array Bool := #[true, true, true, true, true, true, false, false, true, false, true, false, true, true, true, true, false, false, false, false, false, false]
abbrev q9_l89 : Array Bool := #[true, true, true, true, true, true, true, false, true, false, true, false, true, true, true, true, false, false, false, false, false, false]
abbrev q9_l90 : Array Bool := #[true, true, true, true, true, true, false, false, true, true, true, false, true, true, true, true, false, false, false, false, false, false]
abbrev q9_l91 : Array Bool := #[true, true, true, true, true, true, false, false, true, false, true, false, true, false, true, false, false, false, true, true, false, false]
abbrev q9_l92 : Array Bool := #[true, true, true, true, true, true, true, false, true, false, true, false, true, false, true, false, false, false, true, true, false, false]
abbrev q9_l93 : Array Bool := #[true, true, true, true, true, true, false, false, true, true, true, false, true, false, true, false, false, false, true, true, false, false]
abbrev q9_l94 : Array Bool := #[true, true, true, true, true, true, false, false, true, false, true, false, true, true, true, false, false, false, true, true, false, false]
abbrev q9_l95 : Array Bool := #[true, true, false, true, true, false, false, false, true, true, true, true, true, true, true, true, false, false, false, false, false, false]
abbrev q9_l96 : Array Bool := #[true, true, true, true, true, false, false, false, true, true, true, true, true, true, true, true, false, false, false, false, false, false]
abbrev q9_l97 : Array Bool := #[true, true, false, true, true, false, false, false, true, true, true, true, true, false, true, false, false, false, true, true, false, false]
abbrev q9_l98 : Array Bool := #[true, true, true, true, true, false, false, false, true, true, true, true, true, false, true, false, false, false, true, true, false, false]
abbrev q9_l99 : Array Bool := #[true, true, false, true, true, false, false, false, true, true, true, true, true, true, true, false, false, false, true, true, false, false]
abbrev q9_l100 : Array Bool := #[true, true, false, true, true, false, false, false, true, false, true, false, true, true, true, true, false, false, true, true, false, false]
abbrev q9_l101 : Array Bool := #[true, true, true, true, true, false, false, false, true, false, true, false, true, true, true, true, false, false, true, true, false, false]
abbrev q9_l102 : Array Bool := #[true, true, false, true, true, false, false, false, true, true, true, false, true, true, true, true, false, false, true, true, false, false]
abbrev q9_l103 : Array Bool := #[true, true, true, true, true, true, false, false, true, false, true, false, true, false, true, false, false, false, true, false, false, false]
abbrev q9_l104 : Array Bool := #[true, true, true, true, true, true, true, false, true, false, true, false, true, false, true, false, false, false, true, false, false, false]
abbrev q9_l105 : Array Bool := #[true, true, true, true, true, true, false, false, true, true, true, false, true, false, true, false, false, false, true, false, false, false]
abbrev q9_l106 : Array Bool := #[true, true, true, true, true, true, false, false, true, false, true, false, true, true, true, false, false, false, true, false, false, false]
abbrev q9_l107 : Array Bool := #[true, true, true, true, true, true, false, false, true, false, true, false, true, false, true, false, false, false, false, true, false, false]
abbrev q9_l108 : Array Bool := #[true, true, true, true, true, true, true, false, true, false, true, false, true, false, true, false, false, false, false, true, false, false]
abbrev q9_l109 : Array Bool := #[true, true, true, true, true, true, false, false, true, true, true, false, true, false, true, false, false, false, false, true, false, false]
abbrev q9_l110 : Array Bool := #[true, true, true, true, true, true, false, false, true, false, true, false, true, true, true, false, false, false, false, true, false, false]
abbrev q9_l111 : Array Bool := #[true, true, false, true, true, false, false, false, true, true, true, true, true, false, true, false, false, false, true, false, false, false]
abbrev q9_l112 : Array Bool := #[true, true, true, true, true, false, false, false, true, true, true, true, true, false, true, false, false, false, true, false, false, false]
abbrev q9_l113 : Array Bool := #[true, true, false, true, true, false, false, false, true, true, true, true, true, true, true, false, false, false, true, false, false, false]
abbrev q9_l114 : Array Bool := #[true, true, false, true, true, false, false, false, true, true, true, true, true, false, true, false, false, false, false, true, false, false]
abbrev q9_l115 : Array Bool := #[true, true, true, true, true, false, false, false, true, true, true, true, true, false, true, false, false, false, false, true, false, false]
abbrev q9_l116 : Array Bool := #[true, true, false, true, true, false, false, false, true, true, true, true, true, true, true, false, false, false, false, true, false, false]
abbrev q9_l117 : Array Bool := #[true, true, false, true, true, false, false, false, true, false, true, false, true, true, true, true, false, false, true, false, false, false]
abbrev q9_l118 : Array Bool := #[true, true, true, true, true, false, false, false, true, false, true, false, true, true, true, true, false, false, true, false, false, false]
abbrev q9_l119 : Array Bool := #[true, true, false, true, true, false, false, false, true, true, true, false, true, true, true, true, false, false, true, false, false, false]
abbrev q9_l120 : Array Bool := #[true, true, false, true, true, false, false, false, true, false, true, false, true, true, true, true, false, false, false, true, false, false]
abbrev q9_l121 : Array Bool := #[true, true, true, true, true, false, false, false, true, false, true, false, true, true, true, true, false, false, false, true, false, false]
abbrev q9_l122 : Array Bool := #[true, true, false, true, true, false, false, false, true, true, true, false, true, true, true, true, false, false, false, true, false, false]
abbrev q9_l123 : Array Bool := #[true, true, true, true, true, true, false, false, true, false, true, false, true, false, true, false, false, false, false, false, false, false]
abbrev q9_l124 : Array Bool := #[true, true, true, true, true, true, true, false, true, false, true, false, true, false, true, false, false, false, false, false, false, false]
abbrev q9_l125 : Array Bool := #[true, true, true, true, true, true, false, false, true, true, true, false, true, false, true, false, false, false, false, false, false, false]
abbrev q9_l126 : Array Bool := #[true, true, true, true, true, true, false, false, true, false, true, false, true, true, true, false, false, false, false, false, false, false]
abbrev q9_l127 : Array Bool := #[true, true, false, true, true, false, false, false, true, true, true, true, true, false, true, false, false, false, false, false, false, false]
abbrev q9_l128 : Array Bool := #[true, true, true, true, true, false, false, false, true, true, true, true, true, false, true, false, false, false, false, false, false, false]
abbrev q9_l129 : Array Bool := #[true, true, false, true, true, false, false, false, true, true, true, true, true, true, true, false, false, false, false, false, false, false]
abbrev q9_l130 : Array Bool := #[true, true, false, true, true, false, false, false, true, false, true, false, true, true, true, true, false, false, false, false, false, false]
abbrev q9_l131 : Array Bool := #[true, true, true, true, true, false, false, false, true, false, true, false, true, true, true, true, false, false, false, false, false, false]
abbrev q9_l132 : Array Bool := #[true, true, false, true, true, false, false, false, true, true, true, false, true, true, true, true, false, false, false, false, false, false]
abbrev q9_l133 : Array Bool := #[true, true, false, true, true, false, false, false, true, false, true, false, true, false, true, false, false, false, true, true, false, false]
abbrev q9_l134 : Array Bool := #[true, true, true, true, true, false, false, false, true, false, true, false, true, false, true, false, false, false, true, true, false, false]
abbrev q9_l135 : Array Bool := #[true, true, false, true, true, false, false, false, true, true, true, false, true, false, true, false, false, false, true, true, false, false]
abbrev q9_l136 : Array Bool := #[true, true, false, true, true, false, false, false, true, false, true, false, true, true, true, false, false, false, true, true, false, false]
abbrev q9_l137 : Array Bool := #[true, true, false, true, true, false, false, false, true, false, true, false, true, false, true, false, false, false, true, false, false, false]
abbrev q9_l138 : Array Bool := #[true, true, true, true, true, false, false, false, true, false, true, false, true, false, true, false, false, false, true, false, false, false]
abbrev q9_l139 : Array Bool := #[true, true, false, true, true, false, false, false, true, true, true, false, true, false, true, false, false, false, true, false, false, false]
abbrev q9_l140 : Array Bool := #[true, true, false, true, true, false, false, false, true, false, true, false, true, true, true, false, false, false, true, false, false, false]
abbrev q9_l141 : Array Bool := #[true, true, false, true, true, false, false, false, true, false, true, false, true, false, true, false, false, false, false, true, false, false]
abbrev q9_l142 : Array Bool := #[true, true, true, true, true, false, false, false, true, false, true, false, true, false, true, false, false, false, false, true, false, false]
abbrev q9_l143 : Array Bool := #[true, true, false, true, true, false, false, false, true, true, true, false, true, false, true, false, false, false, false, true, false, false]
abbrev q9_l144 : Array Bool := #[true, true, false, true, true, false, false, false, true, false, true, false, true, true, true, false, false, false, false, true, false, false]
abbrev q9_l145 : Array Bool := #[true, true, false, true, true, false, false, false, true, false, true, false, true, false, true, false, false, false, false, false, false, false]
abbrev q9_l146 : Array Bool := #[true, true, true, true, true, false, false, false, true, false, true, false, true, false, true, false, false, false, false, false, false, false]
abbrev q9_l147 : Array Bool := #[true, true, false, true, true, false, false, false, true, true, true, false, true, false, true, false, false, false, false, false, false, false]
abbrev q9_l148 : Array Bool := #[true, true, false, true, true, false, false, false, true, false, true, false, true, true, true, false, false, false, false, false, false, false]
abbrev q9_l149 : Array Bool := #[true, false, false, false, false, false, false, false, false, false, false, false, false, false, false, false, false, false, false, false, false, false]
abbrev q9_l150 : Array Bool := #[true, true, false, false, false, false, false, false, false, false, false, false, false, false, false, false, false, false, false, false, false, false]
abbrev q9_l151 : Array Bool := #[true, true, false, true, false, false, false, false, false, false, false, false, false, false, false, false, false, false, false, false, false, false]
abbrev q9_l152 : Array Bool := #[true, true, false, true, true, false, false, false, false, false, false, false, false, false, false, false, false, false, false, false, false, false]
abbrev q9_l153 : Array Bool := #[true, true, false, true, true, false, false, false, true, false, false, false, false, false, false, false, false, false, false, false, false, false]
abbrev q9_l154 : Array Bool := #[true, true, false, true, true, false, false, false, true, false, true, false, false, false, false, false, false, false, false, false, false, false]
abbrev q9_l155 : Array Bool := #[true, true, false, true, true, false, false, false, true, false, true, false, true, false, false, false, false, false, false, false, false, false]
abbrev q9_J0 (L : Int) (ks : List Int) (lb c' k : Nat) (x : Int) (H : AHeap) (fr : AFr) (G : AHeap) : Prop := ∃ get : Nat → Value, fr = ⟨79, get⟩ ∧ ∃ (b50 b60 b9 b10 : Nat), Same H.next H G ∧ G.blk H.next = some (.cells [.int .i16 L, .slice (some ⟨lb, 0, none⟩) ks.length c'] 1) ∧ G.blk (H.next + 1) = some (.cells [.int .i16 0, .slice none 0 0] 1) ∧ G.blk (H.next + 2) = some (.cells [.int .i16 0, .slice none 0 0] 1) ∧ G.blk lb = some (.cells (fl i16 ks) 1) ∧ H.next + 3 ≤ G.next ∧ H.next + 3 ≤ b50 ∧ b50 < G.next ∧ G.blk b50 = some (.cells (fl i16 (ks.take (k + 1))) 1) ∧ H.next + 3 ≤ b60 ∧ b60 < G.next ∧ G.blk b60 = some (.cells (fl i16 (ks.drop k)) 1) ∧ H.next + 3 ≤ b9 ∧ b9 < G.next ∧ G.blk b9 = some (.cells [.int .i16 x, .slice (some ⟨b50, 0, none⟩) (ks.take (k + 1)).length ((ks.take (k + 1)).length + 1)] 1) ∧ H.next + 3 ≤ b10 ∧ b10 < G.next ∧ G.blk b10 = some (.cells [.int .i16 (L - x), .slice (some ⟨b60, 0, none⟩) (ks.drop k).length ((ks.drop k).length + 1)] 1) ∧ b50 ≠ b60 ∧ b50 ≠ b9 ∧ b60 ≠ b9 ∧ b50 ≠ b10 ∧ b60 ≠ b10 ∧ b9 ≠ b10 ∧ get 4 = .pointer (some ⟨H.next + 1, 0, none⟩) ∧ get 5 = .pointer (some ⟨H.next + 2, 0, none⟩) ∧ get 8 = .int .i16 x ∧ get 9 = .pointer (some ⟨b9, 0, none⟩) ∧ get 10 = .pointer (some ⟨b10, 0, none⟩)
abbrev q9_J1 (L : Int) (ks : List Int) (lb c' k : Nat) (x : Int) (H : AHeap) (fr : AFr) (G : AHeap) : Prop := ∃ get : Nat → Value, fr = ⟨79, get⟩ ∧ ∃ (b50 b60 b9 b10 : Nat), Same H.next H G ∧ G.blk H.next = some (.cells [.int .i16 L, .slice (some ⟨lb, 0, none⟩) ks.length c'] 1) ∧ G.blk (H.next + 1) = some (.cells [.int .i16 0, .slice none 0 0] 1) ∧ G.blk (H.next + 2) = some (.cells [.int .i16 0, .slice none 0 0] 1) ∧ G.blk lb = some (.cells (fl i16 ks) 1) ∧ H.next + 3 ≤ G.next ∧ H.next + 3 ≤ b50 ∧ b50 < G.next ∧ G.blk b50 = some (.cells (fl i16 (ks.take (k + 1))) 1) ∧ H.next + 3 ≤ b60 ∧ b60 < G.next ∧ G.blk b60 = some (.cells (fl i16 (ks.drop k)) 1) ∧ H.next + 3 ≤ b9 ∧ b9 < G.next ∧ G.blk b9 = some (.cells [.int .i16 x, .slice (some ⟨b50, 0, none⟩) (ks.take (k + 1)).length ((ks.take (k + 1)).length + 1)] 1) ∧ H.next + 3 ≤ b10 ∧ b10 < G.next ∧ G.blk b10 = some (.cells [.int .i16 0, .slice none 0 0] 1) ∧ b50 ≠ b60 ∧ b50 ≠ b9 ∧ b60 ≠ b9 ∧ b50 ≠ b10 ∧ b60 ≠ b10 ∧ b9 ≠ b10 ∧ get 4 = .pointer (some ⟨H.next + 1, 0, none⟩) ∧ get 5 = .pointer (some ⟨H.next + 2, 0, none⟩) ∧ get 8 = .int .i16 x ∧ get 61 = .agg #[.int .i16 (L - x), .slice (some ⟨b60, 0, none⟩) (ks.drop k).length ((ks.drop k).length + 1)] ∧ get 9 = .pointer (some ⟨b9, 0, none⟩) ∧ get 10 = .pointer (some ⟨b10, 0, none⟩)
abbrev q9_J2 (L : Int) (ks : List Int) (lb c' k : Nat) (x : Int) (H : AHeap) (fr : AFr) (G : AHeap) : Prop := ∃ get : Nat → Value, fr = ⟨79, get⟩ ∧ ∃ (b50 b60 b9 b10 : Nat), Same H.next H G ∧ G.blk H.next = some (.cells [.int .i16 L, .slice (some ⟨lb, 0, none⟩) ks.length c'] 1) ∧ G.blk (H.next + 1) = some (.cells [.int .i16 0, .slice none 0 0] 1) ∧ G.blk (H.next + 2) = some (.cells [.int .i16 0, .slice none 0 0] 1) ∧ G.blk lb = some (.cells (fl i16 ks) 1) ∧ H.next + 3 ≤ G.next ∧ H.next + 3 ≤ b50 ∧ b50 < G.next ∧ G.blk b50 = some (.cells (fl i16 (ks.take (k + 1))) 1) ∧ H.next + 3 ≤ b60 ∧ b60 < G.next ∧ G.blk b60 = some (.cells (fl i16 (ks.drop k)) 1) ∧ H.next + 3 ≤ b9 ∧ b9 < G.next ∧ G.blk b9 = some (.cells [.int .i16 0, .slice none 0 0] 1) ∧ H.next + 3 ≤ b10 ∧ b10 < G.next ∧ G.blk b10 = some (.cells [.int .i16 0, .slice none 0 0] 1) ∧ b50 ≠ b60 ∧ b50 ≠ b9 ∧ b60 ≠ b9 ∧ b50 ≠ b10 ∧ b60 ≠ b10 ∧ b9 ≠ b10 ∧ get 4 = .pointer (some ⟨H.next + 1, 0, none⟩) ∧ get 5 = .pointer (some ⟨H.next + 2, 0, none⟩) ∧ get 8 = .int .i16 x ∧ get 51 = .agg #[.int .i16 x, .slice (some ⟨b50, 0, none⟩) (ks.take (k + 1)).length ((ks.take (k + 1)).length + 1)] ∧ get 61 = .agg #[.int .i16 (L - x), .slice (some ⟨b60, 0, none⟩) (ks.drop k).length ((ks.drop k).length + 1)] ∧ get 9 = .pointer (some ⟨b9, 0, none⟩) ∧ get 10 = .pointer (some ⟨b10, 0, none⟩)
abbrev q9_J3 (L : Int) (ks : List Int) (lb c' k : Nat) (x : Int) (H : AHeap) (fr : AFr) (G : AHeap) : Prop := ∃ get : Nat → Value, fr = ⟨79, get⟩ ∧ ∃ (b50 b60 b9 : Nat), Same H.next H G ∧ G.blk H.next = some (.cells [.int .i16 L, .slice (some ⟨lb, 0, none⟩) ks.length c'] 1) ∧ G.blk (H.next + 1) = some (.cells [.int .i16 0, .slice none 0 0] 1) ∧ G.blk (H.next + 2) = some (.cells [.int .i16 0, .slice none 0 0] 1) ∧ G.blk lb = some (.cells (fl i16 ks) 1) ∧ H.next + 3 ≤ G.next ∧ H.next + 3 ≤ b50 ∧ b50 < G.next ∧ G.blk b50 = some (.cells (fl i16 (ks.take (k + 1))) 1) ∧ H.next + 3 ≤ b60 ∧ b60 < G.next ∧ G.blk b60 = some (.cells (fl i16 (ks.drop k)) 1) ∧ H.next + 3 ≤ b9 ∧ b9 < G.next ∧ G.blk b9 = some (.cells [.int .i16 0, .slice none 0 0] 1) ∧ b50 ≠ b60 ∧ b50 ≠ b9 ∧ b60 ≠ b9 ∧ get 4 = .pointer (some ⟨H.next + 1, 0, none⟩) ∧ get 5 = .pointer (some ⟨H.next + 2, 0, none⟩) ∧ get 8 = .int .i16 x ∧ get 51 = .agg #[.int .i16 x, .slice (some ⟨b50, 0, none⟩) (ks.take (k + 1)).length ((ks.take (k + 1)).length + 1)] ∧ get 61 = .agg #[.int .i16 (L - x), .slice (some ⟨b60, 0, none⟩) (ks.drop k).length ((ks.drop k).length + 1)] ∧ get 9 = .pointer (some ⟨b9, 0, none⟩)
abbrev q9_J4 (L : Int) (ks : List Int) (lb c' k : Nat) (x : Int) (H : AHeap) (fr : AFr) (G : AHeap) : Prop := ∃ get : Nat → Value, fr = ⟨79, get⟩ ∧ ∃ (b50 b60 b10 : Nat), Same H.next H G ∧ G.blk H.next = some (.cells [.int .i16 L, .slice (some ⟨lb, 0, none⟩) ks.length c'] 1) ∧ G.blk (H.next + 1) = some (.cells [.int .i16 0, .slice none 0 0] 1) ∧ G.blk (H.next + 2) = some (.cells [.int .i16 0, .slice none 0 0] 1) ∧ G.blk lb = some (.cells (fl i16 ks) 1) ∧ H.next + 3 ≤ G.next ∧ H.next + 3 ≤ b50 ∧ b50 < G.next ∧ G.blk b50 = some (.cells (fl i16 (ks.take (k + 1))) 1) ∧ H.next + 3 ≤ b60 ∧ b60 < G.next ∧ G.blk b60 = some (.cells (fl i16 (ks.drop k)) 1) ∧ H.next + 3 ≤ b10 ∧ b10 < G.next ∧ G.blk b10 = some (.cells [.int .i16 0, .slice none 0 0] 1) ∧ b50 ≠ b60 ∧ b50 ≠ b10 ∧ b60 ≠ b10 ∧ get 4 = .pointer (some ⟨H.next + 1, 0, none⟩) ∧ get 5 = .pointer (some ⟨H.next + 2, 0, none⟩) ∧ get 8 = .int .i16 x ∧ get 51 = .agg #[.int .i16 x, .slice (some ⟨b50, 0, none⟩) (ks.take (k + 1)).length ((ks.take (k + 1)).length + 1)] ∧ get 61 = .agg #[.int .i16 (L - x), .slice (some ⟨b60, 0, none⟩) (ks.drop k).length ((ks.drop k).length + 1)] ∧ get 10 = .pointer (some ⟨b10, 0, none⟩)
abbrev q9_J5 (L : Int) (ks : List Int) (lb c' k : Nat) (x : Int) (H : AHeap) (fr : AFr) (G : AHeap) : Prop := ∃ get : Nat → Value, fr = ⟨79, get⟩ ∧ ∃ (b50 b60 : Nat), Same H.next H G ∧ G.blk H.next = some (.cells [.int .i16 L, .slice (some ⟨lb, 0, none⟩) ks.length c'] 1) ∧ G.blk (H.next + 1) = some (.cells [.int .i16 0, .slice none 0 0] 1) ∧ G.blk (H.next + 2) = some (.cells [.int .i16 0, .slice none 0 0] 1) ∧ G.blk lb = some (.cells (fl i16 ks) 1) ∧ H.next + 3 ≤ G.next ∧ H.next + 3 ≤ b50 ∧ b50 < G.next ∧ G.blk b50 = some (.cells (fl i16 (ks.take (k + 1))) 1) ∧ H.next + 3 ≤ b60 ∧ b60 < G.next ∧ G.blk b60 = some (.cells (fl i16 (ks.drop k)) 1) ∧ b50 ≠ b60 ∧ get 4 = .pointer (some ⟨H.next + 1, 0, none⟩) ∧ get 5 = .pointer (some ⟨H.next + 2, 0, none⟩) ∧ get 8 = .int .i16 x ∧ get 51 = .agg #[.int .i16 x, .slice (some ⟨b50, 0, none⟩) (ks.take (k + 1)).length ((ks.take (k + 1)).length + 1)] ∧ get 61 = .agg #[.int .i16 (L - x), .slice (some ⟨b60, 0, none⟩) (ks.drop k).length ((ks.drop k).length + 1)]
abbrev q9_J6 (L : Int) (ks : List Int) (lb c' k : Nat) (x : Int) (H : AHeap) (fr : AFr) (G : AHeap) : Prop := ∃ get : Nat → Value, fr = ⟨79, get⟩ ∧ ∃ (b50 b9 b10 : Nat), Same H.next H G ∧ G.blk H.next = some (.cells [.int .i16 L, .slice (some ⟨lb, 0, none⟩) ks.length c'] 1) ∧ G.blk (H.next + 1) = some (.cells [.int .i16 0, .slice none 0 0] 1) ∧ G.blk (H.next + 2) = some (.cells [.int .i16 0, .slice none 0 0] 1) ∧ G.blk lb = some (.cells (fl i16 ks) 1) ∧ H.next + 3 ≤ G.next ∧ H.next + 3 ≤ b50 ∧ b50 < G.next ∧ G.blk b50 = some (.cells (fl i16 (ks.take (k + 1))) 1) ∧ H.next + 3 ≤ b9 ∧ b9 < G.next ∧ G.blk b9 = some (.cells [.int .i16 0, .slice none 0 0] 1) ∧ H.next + 3 ≤ b10 ∧ b10 < G.next ∧ G.blk b10 = some (.cells [.int .i16 0, .slice none 0 0] 1) ∧ b50 ≠ b9 ∧ b50 ≠ b10 ∧ b9 ≠ b10 ∧ get 4 = .pointer (some ⟨H.next + 1, 0, none⟩) ∧ get 5 = .pointer (some ⟨H.next + 2, 0, none⟩) ∧ get 8 = .int .i16 x ∧ get 51 = .agg #[.int .i16 x, .slice (some ⟨b50, 0, none⟩) (ks.take (k + 1)).length ((ks.take (k + 1)).length + 1)] ∧ get 55 = .int .i16 (L - x) ∧ get 59 = .slice (some ⟨lb, 0 + k * 1, none⟩) (ks.length - k) (ks.length - k + 1) ∧ get 9 = .pointer (some ⟨b9, 0, none⟩) ∧ get 10 = .pointer (some ⟨b10, 0, none⟩)
abbrev q9_J7 (L : Int) (ks : List Int) (lb c' k : Nat) (x : Int) (H : AHeap) (fr : AFr) (G : AHeap) : Prop := ∃ get : Nat → Value, fr = ⟨79, get⟩ ∧ ∃ (b50 b60 b9 b10 : Nat), Same H.next H G ∧ G.blk H.next = some (.cells [.int .i16 L, .slice (some ⟨lb, 0, none⟩) ks.length c'] 1) ∧ G.blk (H.next + 1) = some (.cells [.int .i16 0, .slice none 0 0] 1) ∧ G.blk (H.next + 2) = some (.cells [.int .i16 0, .slice none 0 0] 1) ∧ G.blk lb = some (.cells (fl i16 ks) 1) ∧ H.next + 3 ≤ G.next ∧ H.next + 3 ≤ b50 ∧ b50 < G.next ∧ G.blk b50 = some (.cells (fl i16 (ks.take (k + 1))) 1) ∧ H.next + 3 ≤ b60 ∧ b60 < G.next ∧ G.blk b60 = some (.cells (fl i16 (ks.drop k)) 1) ∧ H.next + 3 ≤ b9 ∧ b9 < G.next ∧ G.blk b9 = some (.cells [.int .i16 x, .slice (some ⟨b50, 0, none⟩) (ks.take (k + 1)).length ((ks.take (k + 1)).length + 1)] 1) ∧ H.next + 3 ≤ b10 ∧ b10 < G.next ∧ G.blk b10 = some (.cells [.int .i16 0, .slice none 0 0] 1) ∧ b50 ≠ b60 ∧ b50 ≠ b9 ∧ b60 ≠ b9 ∧ b50 ≠ b10 ∧ b60 ≠ b10 ∧ b9 ≠ b10 ∧ get 4 = .pointer (some ⟨H.next + 1, 0, none⟩) ∧ get 5 = .pointer (some ⟨H.next + 2, 0, none⟩) ∧ get 8 = .int .i16 x ∧ get 52 = .pointer (some ⟨H.next, 0 + 0, none⟩) ∧ get 54 = .int .i16 x ∧ get 60 = .slice (some ⟨b60, 0, none⟩) (ks.drop k).length ((ks.drop k).length + 1) ∧ get 9 = .pointer (some ⟨b9, 0, none⟩) ∧ get 10 = .pointer (some ⟨b10, 0, none⟩)
abbrev q9_J8 (L : Int) (ks : List Int) (lb c' k : Nat) (x : Int) (H : AHeap) (fr : AFr) (G : AHeap) : Prop := ∃ get : Nat → Value, fr = ⟨79, get⟩ ∧ ∃ (b50 b9 : Nat), Same H.next H G ∧ G.blk H.next = some (.cells [.int .i16 L, .slice (some ⟨lb, 0, none⟩) ks.length c'] 1) ∧ G.blk (H.next + 1) = some (.cells [.int .i16 0, .slice none 0 0] 1) ∧ G.blk (H.next + 2) = some (.cells [.int .i16 0, .slice none 0 0] 1) ∧ G.blk lb = some (.cells (fl i16 ks) 1) ∧ H.next + 3 ≤ G.next ∧ H.next + 3 ≤ b50 ∧ b50 < G.next ∧ G.blk b50 = some (.cells (fl i16 (ks.take (k + 1))) 1) ∧ H.next + 3 ≤ b9 ∧ b9 < G.next ∧ G.blk b9 = some (.cells [.int .i16 0, .slice none 0 0] 1) ∧ b50 ≠ b9 ∧ get 4 = .pointer (some ⟨H.next + 1, 0, none⟩) ∧ get 5 = .pointer (some ⟨H.next + 2, 0, none⟩) ∧ get 8 = .int .i16 x ∧ get 51 = .agg #[.int .i16 x, .slice (some ⟨b50, 0, none⟩) (ks.take (k + 1)).length ((ks.take (k + 1)).length + 1)] ∧ get 55 = .int .i16 (L - x) ∧ get 59 = .slice (some ⟨lb, 0 + k * 1, none⟩) (ks.length - k) (ks.length - k + 1) ∧ get 9 = .pointer (some ⟨b9, 0, none⟩)
abbrev q9_J9 (L : Int) (ks : List Int) (lb c' k : Nat) (x : Int) (H : AHeap) (fr : AFr) (G : AHeap) : Prop := ∃ get : Nat → Value, fr = ⟨79, get⟩ ∧ ∃ (b50 b10 : Nat), Same H.next H G ∧ G.blk H.next = some (.cells [.int .i16 L, .slice (some ⟨lb, 0, none⟩) ks.length c'] 1) ∧ G.blk (H.next + 1) = some (.cells [.int .i16 0, .slice none 0 0] 1) ∧ G.blk (H.next + 2) = some (.cells [.int .i16 0, .slice none 0 0] 1) ∧ G.blk lb = some (.cells (fl i16 ks) 1) ∧ H.next + 3 ≤ G.next ∧ H.next + 3 ≤ b50 ∧ b50 < G.next ∧ G.blk b50 = some (.cells (fl i16 (ks.take (k + 1))) 1) ∧ H.next + 3 ≤ b10 ∧ b10 < G.next ∧ G.blk b10 = some (.cells [.int .i16 0, .slice none 0 0] 1) ∧ b50 ≠ b10 ∧ get 4 = .pointer (some ⟨H.next + 1, 0, none⟩) ∧ get 5 = .pointer (some ⟨H.next + 2, 0, none⟩) ∧ get 8 = .int .i16 x ∧ get 51 = .agg #[.int .i16 x, .slice (some ⟨b50, 0, none⟩) (ks.take (k + 1)).length ((ks.take (k + 1)).length + 1)] ∧ get 55 = .int .i16 (L - x) ∧ get 59 = .slice (some ⟨lb, 0 + k * 1, none⟩) (ks.length - k) (ks.length - k + 1) ∧ get 10 = .pointer (some ⟨b10, 0, none⟩)
abbrev q9_J10 (L : Int) (ks : List Int) (lb c' k : Nat) (x : Int) (H : AHeap) (fr : AFr) (G : AHeap) : Prop := ∃ get : Nat → Value, fr = ⟨79, get⟩ ∧ ∃ (b50 b60 b9 b10 : Nat), Same H.next H G ∧ G.blk H.next = some (.cells [.int .i16 L, .slice (some ⟨lb, 0, none⟩) ks.length c'] 1) ∧ G.blk (H.next + 1) = some (.cells [.int .i16 0, .slice none 0 0] 1) ∧ G.blk (H.next + 2) = some (.cells [.int .i16 0, .slice none 0 0] 1) ∧ G.blk lb = some (.cells (fl i16 ks) 1) ∧ H.next + 3 ≤ G.next ∧ H.next + 3 ≤ b50 ∧ b50 < G.next ∧ G.blk b50 = some (.cells (fl i16 (ks.take (k + 1))) 1) ∧ H.next + 3 ≤ b60 ∧ b60 < G.next ∧ G.blk b60 = some (.cells (fl i16 (ks.drop k)) 1) ∧ H.next + 3 ≤ b9 ∧ b9 < G.next ∧ G.blk b9 = some (.cells [.int .i16 0, .slice none 0 0] 1) ∧ H.next + 3 ≤ b10 ∧ b10 < G.next ∧ G.blk b10 = some (.cells [.int .i16 0, .slice none 0 0] 1) ∧ b50 ≠ b60 ∧ b50 ≠ b9 ∧ b60 ≠ b9 ∧ b50 ≠ b10 ∧ b60 ≠ b10 ∧ b9 ≠ b10 ∧ get 4 = .pointer (some ⟨H.next + 1, 0, none⟩) ∧ get 5 = .pointer (some ⟨H.next + 2, 0, none⟩) ∧ get 8 = .int .i16 x ∧ get 51 = .agg #[.int .i16 x, .slice (some ⟨b50, 0, none⟩) (ks.take (k + 1)).length ((ks.take (k + 1)).length + 1)] ∧ get 52 = .pointer (some ⟨H.next, 0 + 0, none⟩) ∧ get 54 = .int .i16 x ∧ get 60 = .slice (some ⟨b60, 0, none⟩) (ks.drop k).length ((ks.drop k).length + 1) ∧ get 9 = .pointer (some ⟨b9, 0, none⟩) ∧ get 10 = .pointer (some ⟨b10, 0, none⟩)
abbrev q9_J11 (L : Int) (ks : List Int) (lb c' k : Nat) (x : Int) (H : AHeap) (fr : AFr) (G : AHeap) : Prop := ∃ get : Nat → Value, fr = ⟨79, get⟩ ∧ ∃ (b50 : Nat), Same H.next H G ∧ G.blk H.next = some (.cells [.int .i16 L, .slice (some ⟨lb, 0, none⟩) ks.length c'] 1) ∧ G.blk (H.next + 1) = some (.cells [.int .i16 0, .slice none 0 0] 1) ∧ G.blk (H.next + 2) = some (.cells [.int .i16 0, .slice none 0 0] 1) ∧ G.blk lb = some (.cells (fl i16 ks) 1) ∧ H.next + 3 ≤ G.next ∧ H.next + 3 ≤ b50 ∧ b50 < G.next ∧ G.blk b50 = some (.cells (fl i16 (ks.take (k + 1))) 1) ∧ get 4 = .pointer (some ⟨H.next + 1, 0, none⟩) ∧ get 5 = .pointer (some ⟨H.next + 2, 0, none⟩) ∧ get 8 = .int .i16 x ∧ get 51 = .agg #[.int .i16 x, .slice (some ⟨b50, 0, none⟩) (ks.take (k + 1)).length ((ks.take (k + 1)).length + 1)] ∧ get 55 = .int .i16 (L - x) ∧ get 59 = .slice (some ⟨lb, 0 + k * 1, none⟩) (ks.length - k) (ks.length - k + 1)
abbrev q9_J12 (L : Int) (ks : List Int) (lb c' k : Nat) (x : Int) (H : AHeap) (fr : AFr) (G : AHeap) : Prop := ∃ get : Nat → Value, fr = ⟨79, get⟩ ∧ ∃ (b50 b9 b10 : Nat), Same H.next H G ∧ G.blk H.next = some (.cells [.int .i16 L, .slice (some ⟨lb, 0, none⟩) ks.length c'] 1) ∧ G.blk (H.next + 1) = some (.cells [.int .i16 0, .slice none 0 0] 1) ∧ G.blk (H.next + 2) = some (.cells [.int .i16 0, .slice none 0 0] 1) ∧ G.blk lb = some (.cells (fl i16 ks) 1) ∧ H.next + 3 ≤ G.next ∧ H.next + 3 ≤ b50 ∧ b50 < G.next ∧ G.blk b50 = some (.cells (fl i16 (ks.take (k + 1))) 1) ∧ H.next + 3 ≤ b9 ∧ b9 < G.next ∧ G.blk b9 = some (.cells [.int .i16 0, .slice none 0 0] 1) ∧ H.next + 3 ≤ b10 ∧ b10 < G.next ∧ G.blk b10 = some (.cells [.int .i16 0, .slice none 0 0] 1) ∧ b50 ≠ b9 ∧ b50 ≠ b10 ∧ b9 ≠ b10 ∧ get 4 = .pointer (some ⟨H.next + 1, 0, none⟩) ∧ get 5 = .pointer (some ⟨H.next + 2, 0, none⟩) ∧ get 8 = .int .i16 x ∧ get 51 = .agg #[.int .i16 x, .slice (some ⟨b50, 0, none⟩) (ks.take (k + 1)).length ((ks.take (k + 1)).length + 1)] ∧ get 55 = .int .i16 (L - x) ∧ get 56 = .pointer (some ⟨H.next, 0 + 1, none⟩) ∧ get 58 = .int .i64 k ∧ get 9 = .pointer (some ⟨b9, 0, none⟩) ∧ get 10 = .pointer (some ⟨b10, 0, none⟩)
abbrev q9_J13 (L : Int) (ks : List Int) (lb c' k : Nat) (x : Int) (H : AHeap) (fr : AFr) (G : AHeap) : Prop := ∃ get : Nat → Value, fr = ⟨79, get⟩ ∧ ∃ (b50 b60 b9 : Nat), Same H.next H G ∧ G.blk H.next = some (.cells [.int .i16 L, .slice (some ⟨lb, 0, none⟩) ks.length c'] 1) ∧ G.blk (H.next + 1) = some (.cells [.int .i16 0, .slice none 0 0] 1) ∧ G.blk (H.next + 2) = some (.cells [.int .i16 0, .slice none 0 0] 1) ∧ G.blk lb = some (.cells (fl i16 ks) 1) ∧ H.next + 3 ≤ G.next ∧ H.next + 3 ≤ b50 ∧ b50 < G.next ∧ G.blk b50 = some (.cells (fl i16 (ks.take (k + 1))) 1) ∧ H.next + 3 ≤ b60 ∧ b60 < G.next ∧ G.blk b60 = some (.cells (fl i16 (ks.drop k)) 1) ∧ H.next + 3 ≤ b9 ∧ b9 < G.next ∧ G.blk b9 = some (.cells [.int .i16 0, .slice none 0 0] 1) ∧ b50 ≠ b60 ∧ b50 ≠ b9 ∧ b60 ≠ b9 ∧ get 4 = .pointer (some ⟨H.next + 1, 0, none⟩) ∧ get 5 = .pointer (some ⟨H.next + 2, 0, none⟩) ∧ get 8 = .int .i16 x ∧ get 51 = .agg #[.int .i16 x, .slice (some ⟨b50, 0, none⟩) (ks.take (k + 1)).length ((ks.take (k + 1)).length + 1)] ∧ get 52 = .pointer (some ⟨H.next, 0 + 0, none⟩) ∧ get 54 = .int .i16 x ∧ get 60 = .slice (some ⟨b60, 0, none⟩) (ks.drop k).length ((ks.drop k).length + 1) ∧ get 9 = .pointer (some ⟨b9, 0, none⟩)
abbrev q9_J14 (L : Int) (ks : List Int) (lb c' k : Nat) (x : Int) (H : AHeap) (fr : AFr) (G : AHeap) : Prop := ∃ get : Nat → Value, fr = ⟨79, get⟩ ∧ ∃ (b50 b60 b10 : Nat), Same H.next H G ∧ G.blk H.next = some (.cells [.int .i16 L, .slice (some ⟨lb, 0, none⟩) ks.length c'] 1) ∧ G.blk (H.next + 1) = some (.cells [.int .i16 0, .slice none 0 0] 1) ∧ G.blk (H.next + 2) = some (.cells [.int .i16 0, .slice none 0 0] 1) ∧ G.blk lb = some (.cells (fl i16 ks) 1) ∧ H.next + 3 ≤ G.next ∧ H.next + 3 ≤ b50 ∧ b50 < G.next ∧ G.blk b50 = some (.cells (fl i16 (ks.take (k + 1))) 1) ∧ H.next + 3 ≤ b60 ∧ b60 < G.next ∧ G.blk b60 = some (.cells (fl i16 (ks.drop k)) 1) ∧ H.next + 3 ≤ b10 ∧ b10 < G.next ∧ G.blk b10 = some (.cells [.int .i16 0, .slice none 0 0] 1) ∧ b50 ≠ b60 ∧ b50 ≠ b10 ∧ b60 ≠ b10 ∧ get 4 = .pointer (some ⟨H.next + 1, 0, none⟩) ∧ get 5 = .pointer (some ⟨H.next + 2, 0, none⟩) ∧ get 8 = .int .i16 x ∧ get 51 = .agg #[.int .i16 x, .slice (some ⟨b50, 0, none⟩) (ks.take (k + 1)).length ((ks.take (k + 1)).length + 1)] ∧ get 52 = .pointer (some ⟨H.next, 0 + 0, none⟩) ∧ get 54 = .int .i16 x ∧ get 60 = .slice (some ⟨b60, 0, none⟩) (ks.drop k).length ((ks.drop k).length + 1) ∧ get 10 = .pointer (some ⟨b10, 0, none⟩)
abbrev q9_J15 (L : Int) (ks : List Int) (lb c' k : Nat) (x : Int) (H : AHeap) (fr : AFr) (G : AHeap) : Prop := ∃ get : Nat → Value, fr = ⟨79, get⟩ ∧ ∃ (b50 b9 b10 : Nat), Same H.next H G ∧ G.blk H.next = some (.cells [.int .i16 L, .slice (some ⟨lb, 0, none⟩) ks.length c'] 1) ∧ G.blk (H.next + 1) = some (.cells [.int .i16 0, .slice none 0 0] 1) ∧ G.blk (H.next + 2) = some (.cells [.int .i16 0, .slice none 0 0] 1) ∧ G.blk lb = some (.cells (fl i16 ks) 1) ∧ H.next + 3 ≤ G.next ∧ H.next + 3 ≤ b50 ∧ b50 < G.next ∧ G.blk b50 = some (.cells (fl i16 (ks.take (k + 1))) 1) ∧ H.next + 3 ≤ b9 ∧ b9 < G.next ∧ G.blk b9 = some (.cells [.int .i16 0, .slice none 0 0] 1) ∧ H.next + 3 ≤ b10 ∧ b10 < G.next ∧ G.blk b10 = some (.cells [.int .i16 0, .slice none 0 0] 1) ∧ b50 ≠ b9 ∧ b50 ≠ b10 ∧ b9 ≠ b10 ∧ get 4 = .pointer (some ⟨H.next + 1, 0, none⟩) ∧ get 5 = .pointer (some ⟨H.next + 2, 0, none⟩) ∧ get 8 = .int .i16 x ∧ get 51 = .agg #[.int .i16 x, .slice (some ⟨b50, 0, none⟩) (ks.take (k + 1)).length ((ks.take (k + 1)).length + 1)] ∧ get 52 = .pointer (some ⟨H.next, 0 + 0, none⟩) ∧ get 54 = .int .i16 x ∧ get 59 = .slice (some ⟨lb, 0 + k * 1, none⟩) (ks.length - k) (ks.length - k + 1) ∧ get 9 = .pointer (some ⟨b9, 0, none⟩) ∧ get 10 = .pointer (some ⟨b10, 0, none⟩)
abbrev q9_J16 (L : Int) (ks : List Int) (lb c' k : Nat) (x : Int) (H : AHeap) (fr : AFr) (G : AHeap) : Prop := ∃ get : Nat → Value, fr = ⟨79, get⟩ ∧ ∃ (b9 b10 : Nat), Same H.next H G ∧ G.blk H.next = some (.cells [.int .i16 L, .slice (some ⟨lb, 0, none⟩) ks.length c'] 1) ∧ G.blk (H.next + 1) = some (.cells [.int .i16 0, .slice none 0 0] 1) ∧ G.blk (H.next + 2) = some (.cells [.int .i16 0, .slice none 0 0] 1) ∧ G.blk lb = some (.cells (fl i16 ks) 1) ∧ H.next + 3 ≤ G.next ∧ H.next + 3 ≤ b9 ∧ b9 < G.next ∧ G.blk b9 = some (.cells [.int .i16 0, .slice none 0 0] 1) ∧ H.next + 3 ≤ b10 ∧ b10 < G.next ∧ G.blk b10 = some (.cells [.int .i16 0, .slice none 0 0] 1) ∧ b9 ≠ b10 ∧ get 4 = .pointer (some ⟨H.next + 1, 0, none⟩) ∧ get 5 = .pointer (some ⟨H.next + 2, 0, none⟩) ∧ get 8 = .int .i16 x ∧ get 44 = .int .i16 x ∧ get 49 = .slice (some ⟨lb, 0, none⟩) (k + 1) (k + 1 + 1) ∧ get 55 = .int .i16 (L - x) ∧ get 59 = .slice (some ⟨lb, 0 + k * 1, none⟩) (ks.length - k) (ks.length - k + 1) ∧ get 9 = .pointer (some ⟨b9, 0, none⟩) ∧ get 10 = .pointer (some ⟨b10, 0, none⟩)
abbrev q9_J17 (L : Int) (ks : List Int) (lb c' k : Nat) (x : Int) (H : AHeap) (fr : AFr) (G : AHeap) : Prop := ∃ get : Nat → Value, fr = ⟨79, get⟩ ∧ ∃ (b50 b9 : Nat), Same H.next H G ∧ G.blk H.next = some (.cells [.int .i16 L, .slice (some ⟨lb, 0, none⟩) ks.length c'] 1) ∧ G.blk (H.next + 1) = some (.cells [.int .i16 0, .slice none 0 0] 1) ∧ G.blk (H.next + 2) = some (.cells [.int .i16 0, .slice none 0 0] 1) ∧ G.blk lb = some (.cells (fl i16 ks) 1) ∧ H.next + 3 ≤ G.next ∧ H.next + 3 ≤ b50 ∧ b50 < G.next ∧ G.blk b50 = some (.cells (fl i16 (ks.take (k + 1))) 1) ∧ H.next + 3 ≤ b9 ∧ b9 < G.next ∧ G.blk b9 = some (.cells [.int .i16 0, .slice none 0 0] 1) ∧ b50 ≠ b9 ∧ get 4 = .pointer (some ⟨H.next + 1, 0, none⟩) ∧ get 5 = .pointer (some ⟨H.next + 2, 0, none⟩) ∧ get 8 = .int .i16 x ∧ get 51 = .agg #[.int .i16 x, .slice (some ⟨b50, 0, none⟩) (ks.take (k + 1)).length ((ks.take (k + 1)).length + 1)] ∧ get 55 = .int .i16 (L - x) ∧ get 56 = .pointer (some ⟨H.next, 0 + 1, none⟩) ∧ get 58 = .int .i64 k ∧ get 9 = .pointer (some ⟨b9, 0, none⟩)
abbrev q9_J18 (L : Int) (ks : List Int) (lb c' k : Nat) (x : Int) (H : AHeap) (fr : AFr) (G : AHeap) : Prop := ∃ get : Nat → Value, fr = ⟨79, get⟩ ∧ ∃ (b50 b10 : Nat), Same H.next H G ∧ G.blk H.next = some (.cells [.int .i16 L, .slice (some ⟨lb, 0, none⟩) ks.length c'] 1) ∧ G.blk (H.next + 1) = some (.cells [.int .i16 0, .slice none 0 0] 1) ∧ G.blk (H.next + 2) = some (.cells [.int .i16 0, .slice none 0 0] 1) ∧ G.blk lb = some (.cells (fl i16 ks) 1) ∧ H.next + 3 ≤ G.next ∧ H.next + 3 ≤ b50 ∧ b50 < G.next ∧ G.blk b50 = some (.cells (fl i16 (ks.take (k + 1))) 1) ∧ H.next + 3 ≤ b10 ∧ b10 < G.next ∧ G.blk b10 = some (.cells [.int .i16 0, .slice none 0 0] 1) ∧ b50 ≠ b10 ∧ get 4 = .pointer (some ⟨H.next + 1, 0, none⟩) ∧ get 5 = .pointer (some ⟨H.next + 2, 0, none⟩) ∧ get 8 = .int .i16 x ∧ get 51 = .agg #[.int .i16 x, .slice (some ⟨b50, 0, none⟩) (ks.take (k + 1)).length ((ks.take (k + 1)).length + 1)] ∧ get 55 = .int .i16 (L - x) ∧ get 56 = .pointer (some ⟨H.next, 0 + 1, none⟩) ∧ get 58 = .int .i64 k ∧ get 10 = .pointer (some ⟨b10, 0, none⟩)
abbrev q9_J19 (L : Int) (ks : List Int) (lb c' k : Nat) (x : Int) (H : AHeap) (fr : AFr) (G : AHeap) : Prop := ∃ get : Nat → Value, fr = ⟨79, get⟩ ∧ ∃ (b50 b60 : Nat), Same H.next H G ∧ G.blk H.next = some (.cells [.int .i16 L, .slice (some ⟨lb, 0, none⟩) ks.length c'] 1) ∧ G.blk (H.next + 1) = some (.cells [.int .i16 0, .slice none 0 0] 1) ∧ G.blk (H.next + 2) = some (.cells [.int .i16 0, .slice none 0 0] 1) ∧ G.blk lb = some (.cells (fl i16 ks) 1) ∧ H.next + 3 ≤ G.next ∧ H.next + 3 ≤ b50 ∧ b50 < G.next ∧ G.blk b50 = some (.cells (fl i16 (ks.take (k + 1))) 1) ∧ H.next + 3 ≤ b60 ∧ b60 < G.next ∧ G.blk b60 = some (.cells (fl i16 (ks.drop k)) 1) ∧ b50 ≠ b60 ∧ get 4 = .pointer (some ⟨H.next + 1, 0, none⟩) ∧ get 5 = .pointer (some ⟨H.next + 2, 0, none⟩) ∧ get 8 = .int .i16 x ∧ get 51 = .agg #[.int .i16 x, .slice (some ⟨b50, 0, none⟩) (ks.take (k + 1)).length ((ks.take (k + 1)).length + 1)] ∧ get 52 = .pointer (some ⟨H.next, 0 + 0, none⟩) ∧ get 54 = .int .i16 x ∧ get 60 = .slice (some ⟨b60, 0, none⟩) (ks.drop k).length ((ks.drop k).length + 1)
abbrev q9_J20 (L : Int) (ks : List Int) (lb c' k : Nat) (x : Int) (H : AHeap) (fr : AFr) (G : AHeap) : Prop := ∃ get : Nat → Value, fr = ⟨79, get⟩ ∧ ∃ (b50 b9 : Nat), Same H.next H G ∧ G.blk H.next = some (.cells [.int .i16 L, .slice (some ⟨lb, 0, none⟩) ks.length c'] 1) ∧ G.blk (H.next + 1) = some (.cells [.int .i16 0, .slice none 0 0] 1) ∧ G.blk (H.next + 2) = some (.cells [.int .i16 0, .slice none 0 0] 1) ∧ G.blk lb = some (.cells (fl i16 ks) 1) ∧ H.next + 3 ≤ G.next ∧ H.next + 3 ≤ b50 ∧ b50 < G.next ∧ G.blk b50 = some (.cells (fl i16 (ks.take (k + 1))) 1) ∧ H.next + 3 ≤ b9 ∧ b9 < G.next ∧ G.blk b9 = some (.cells [.int .i16 0, .slice none 0 0] 1) ∧ b50 ≠ b9 ∧ get 4 = .pointer (some ⟨H.next + 1, 0, none⟩) ∧ get 5 = .pointer (some ⟨H.next + 2, 0, none⟩) ∧ get 8 = .int .i16 x ∧ get 51 = .agg #[.int .i16 x, .slice (some ⟨b50, 0, none⟩) (ks.take (k + 1)).length ((ks.take (k + 1)).length + 1)] ∧ get 52 = .pointer (some ⟨H.next, 0 + 0, none⟩) ∧ get 54 = .int .i16 x ∧ get 59 = .slice (some ⟨lb, 0 + k * 1, none⟩) (ks.length - k) (ks.length - k + 1) ∧ get 9 = .pointer (some ⟨b9, 0, none⟩)
abbrev q9_J21 (L : Int) (ks : List Int) (lb c' k : Nat) (x : Int) (H : AHeap) (fr : AFr) (G : AHeap) : Prop := ∃ get : Nat → Value, fr = ⟨79, get⟩ ∧ ∃ (b50 b10 : Nat), Same H.next H G ∧ G.blk H.next = some (.cells [.int .i16 L, .slice (some ⟨lb, 0, none⟩) ks.length c'] 1) ∧ G.blk (H.next + 1) = some (.cells [.int .i16 0, .slice none 0 0] 1) ∧ G.blk (H.next + 2) = some (.cells [.int .i16 0, .slice none 0 0] 1) ∧ G.blk lb = some (.cells (fl i16 ks) 1) ∧ H.next + 3 ≤ G.next ∧ H.next + 3 ≤ b50 ∧ b50 < G.next ∧ G.blk b50 = some (.cells (fl i16 (ks.take (k + 1))) 1) ∧ H.next + 3 ≤ b10 ∧ b10 < G.next ∧ G.blk b10 = some (.cells [.int .i16 0, .slice none 0 0] 1) ∧ b50 ≠ b10 ∧ get 4 = .pointer (some ⟨H.next + 1, 0, none⟩) ∧ get 5 = .pointer (some ⟨H.next + 2, 0, none⟩) ∧ get 8 = .int .i16 x ∧ get 51 = .agg #[.int .i16 x, .slice (some ⟨b50, 0, none⟩) (ks.take (k + 1)).length ((ks.take (k + 1)).length + 1)] ∧ get 52 = .pointer (some ⟨H.next, 0 + 0, none⟩) ∧ get 54 = .int .i16 x ∧ get 59 = .slice (some ⟨lb, 0 + k * 1, none⟩) (ks.length - k) (ks.length - k + 1) ∧ get 10 = .pointer (some ⟨b10, 0, none⟩)
abbrev q9_J22 (L : Int) (ks : List Int) (lb c' k : Nat) (x : Int) (H : AHeap) (fr : AFr) (G : AHeap) : Prop := ∃ get : Nat → Value, fr = ⟨79, get⟩ ∧ ∃ (b9 : Nat), Same H.next H G ∧ G.blk H.next = some (.cells [.int .i16 L, .slice (some ⟨lb, 0, none⟩) ks.length c'] 1) ∧ G.blk (H.next + 1) = some (.cells [.int .i16 0, .slice none 0 0] 1) ∧ G.blk (H.next + 2) = some (.cells [.int .i16 0, .slice none 0 0] 1) ∧ G.blk lb = some (.cells (fl i16 ks) 1) ∧ H.next + 3 ≤ G.next ∧ H.next + 3 ≤ b9 ∧ b9 < G.next ∧ G.blk b9 = some (.cells [.int .i16 0, .slice none 0 0] 1) ∧ get 4 = .pointer (some ⟨H.next + 1, 0, none⟩) ∧ get 5 = .pointer (some ⟨H.next + 2, 0, none⟩) ∧ get 8 = .int .i16 x ∧ get 44 = .int .i16 x ∧ get 49 = .slice (some ⟨lb, 0, none⟩) (k + 1) (k + 1 + 1) ∧ get 55 = .int .i16 (L - x) ∧ get 59 = .slice (some ⟨lb, 0 + k * 1, none⟩) (ks.length - k) (ks.length - k + 1) ∧ get 9 = .pointer (some ⟨b9, 0, none⟩)
abbrev q9_J23 (L : Int) (ks : List Int) (lb c' k : Nat) (x : Int) (H : AHeap) (fr : AFr) (G : AHeap) : Prop := ∃ get : Nat → Value, fr = ⟨79, get⟩ ∧ ∃ (b10 : Nat), Same H.next H G ∧ G.blk H.next = some (.cells [.int .i16 L, .slice (some ⟨lb, 0, none⟩) ks.length c'] 1) ∧ G.blk (H.next + 1) = some (.cells [.int .i16 0, .slice none 0 0] 1) ∧ G.blk (H.next + 2) = some (.cells [.int .i16 0, .slice none 0 0] 1) ∧ G.blk lb = some (.cells (fl i16 ks) 1) ∧ H.next + 3 ≤ G.next ∧ H.next + 3 ≤ b10 ∧ b10 < G.next ∧ G.blk b10 = some (.cells [.int .i16 0, .slice none 0 0] 1) ∧ get 4 = .pointer (some ⟨H.next + 1, 0, none⟩) ∧ get 5 = .pointer (some ⟨H.next + 2, 0, none⟩) ∧ get 8 = .int .i16 x ∧ get 44 = .int .i16 x ∧ get 49 = .slice (some ⟨lb, 0, none⟩) (k + 1) (k + 1 + 1) ∧ get 55 = .int .i16 (L - x) ∧ get 59 = .slice (some ⟨lb, 0 + k * 1, none⟩) (ks.length - k) (ks.length - k + 1) ∧ get 10 = .pointer (some ⟨b10, 0, none⟩)
abbrev q9_J24 (L : Int) (ks : List Int) (lb c' k : Nat) (x : Int) (H : AHeap) (fr : AFr) (G : AHeap) : Prop := ∃ get : Nat → Value, fr = ⟨79, get⟩ ∧ ∃ (b50 : Nat), Same H.next H G ∧ G.blk H.next = some (.cells [.int .i16 L, .slice (some ⟨lb, 0, none⟩) ks.length c'] 1) ∧ G.blk (H.next + 1) = some (.cells [.int .i16 0, .slice none 0 0] 1) ∧ G.blk (H.next + 2) = some (.cells [.int .i16 0, .slice none 0 0] 1) ∧ G.blk lb = some (.cells (fl i16 ks) 1) ∧ H.next + 3 ≤ G.next ∧ H.next + 3 ≤ b50 ∧ b50 < G.next ∧ G.blk b50 = some (.cells (fl i16 (ks.take (k + 1))) 1) ∧ get 4 = .pointer (some ⟨H.next + 1, 0, none⟩) ∧ get 5 = .pointer (some ⟨H.next + 2, 0, none⟩) ∧ get 8 = .int .i16 x ∧ get 51 = .agg #[.int .i16 x, .slice (some ⟨b50, 0, none⟩) (ks.take (k + 1)).length ((ks.take (k + 1)).length + 1)] ∧ get 55 = .int .i16 (L - x) ∧ get 56 = .pointer (some ⟨H.next, 0 + 1, none⟩) ∧ get 58 = .int .i64 k
abbrev q9_J25 (L : Int) (ks : List Int) (lb c' k : Nat) (x : Int) (H : AHeap) (fr : AFr) (G : AHeap) : Prop := ∃ get : Nat → Value, fr = ⟨79, get⟩ ∧ ∃ (b50 : Nat), Same H.next H G ∧ G.blk H.next = some (.cells [.int .i16 L, .slice (some ⟨lb, 0, none⟩) ks.length c'] 1) ∧ G.blk (H.next + 1) = some (.cells [.int .i16 0, .slice none 0 0] 1) ∧ G.blk (H.next + 2) = some (.cells [.int .i16 0, .slice none 0 0] 1) ∧ G.blk lb = some (.cells (fl i16 ks) 1) ∧ H.next + 3 ≤ G.next ∧ H.next + 3 ≤ b50 ∧ b50 < G.next ∧ G.blk b50 = some (.cells (fl i16 (ks.take (k + 1))) 1) ∧ get 4 = .pointer (some ⟨H.next + 1, 0, none⟩) ∧ get 5 = .pointer (some ⟨H.next + 2, 0, none⟩) ∧ get 8 = .int .i16 x ∧ get 51 = .agg #[.int .i16 x, .slice (some ⟨b50, 0, none⟩) (ks.take (k + 1)).length ((ks.take (k + 1)).length + 1)] ∧ get 52 = .pointer (some ⟨H.next, 0 + 0, none⟩) ∧ get 54 = .int .i16 x ∧ get 59 = .slice (some ⟨lb, 0 + k * 1, none⟩) (ks.length - k) (ks.length - k + 1)
abbrev q9_J26 (L : Int) (ks : List Int) (lb c' k : Nat) (x : Int) (H : AHeap) (fr : AFr) (G : AHeap) : Prop := ∃ get : Nat → Value, fr = ⟨79, get⟩ ∧ ∃ (b50 b9 b10 : Nat), Same H.next H G ∧ G.blk H.next = some (.cells [.int .i16 L, .slice (some ⟨lb, 0, none⟩) ks.length c'] 1) ∧ G.blk (H.next + 1) = some (.cells [.int .i16 0, .slice none 0 0] 1) ∧ G.blk (H.next + 2) = some (.cells [.int .i16 0, .slice none 0 0] 1) ∧ G.blk lb = some (.cells (fl i16 ks) 1) ∧ H.next + 3 ≤ G.next ∧ H.next + 3 ≤ b50 ∧ b50 < G.next ∧ G.blk b50 = some (.cells (fl i16 (ks.take (k + 1))) 1) ∧ H.next + 3 ≤ b9 ∧ b9 < G.next ∧ G.blk b9 = some (.cells [.int .i16 0, .slice none 0 0] 1) ∧ H.next + 3 ≤ b10 ∧ b10 < G.next ∧ G.blk b10 = some (.cells [.int .i16 0, .slice none 0 0] 1) ∧ b50 ≠ b9 ∧ b50 ≠ b10 ∧ b9 ≠ b10 ∧ get 4 = .pointer (some ⟨H.next + 1, 0, none⟩) ∧ get 5 = .pointer (some ⟨H.next + 2, 0, none⟩) ∧ get 8 = .int .i16 x ∧ get 51 = .agg #[.int .i16 x, .slice (some ⟨b50, 0, none⟩) (ks.take (k + 1)).length ((ks.take (k + 1)).length + 1)] ∧ get 52 = .pointer (some ⟨H.next, 0 + 0, none⟩) ∧ get 54 = .int .i16 x ∧ get 56 = .pointer (some ⟨H.next, 0 + 1, none⟩) ∧ get 58 = .int .i64 k ∧ get 9 = .pointer (some ⟨b9, 0, none⟩) ∧ get 10 = .pointer (some ⟨b10, 0, none⟩)
abbrev q9_J27 (L : Int) (ks : List Int) (lb c' k : Nat) (x : Int) (H : AHeap) (fr : AFr) (G : AHeap) : Prop := ∃ get : Nat → Value, fr = ⟨79, get⟩ ∧ Same H.next H G ∧ G.blk H.next = some (.cells [.int .i16 L, .slice (some ⟨lb, 0, none⟩) ks.length c'] 1) ∧ G.blk (H.next + 1) = some (.cells [.int .i16 0, .slice none 0 0] 1) ∧ G.blk (H.next + 2) = some (.cells [.int .i16 0, .slice none 0 0] 1) ∧ G.blk lb = some (.cells (fl i16 ks) 1) ∧ H.next + 3 ≤ G.next ∧ get 4 = .pointer (some ⟨H.next + 1, 0, none⟩) ∧ get 5 = .pointer (some ⟨H.next + 2, 0, none⟩) ∧ get 8 = .int .i16 x ∧ get 44 = .int .i16 x ∧ get 49 = .slice (some ⟨lb, 0, none⟩) (k + 1) (k + 1 + 1) ∧ get 55 = .int .i16 (L - x) ∧ get 59 = .slice (some ⟨lb, 0 + k * 1, none⟩) (ks.length - k) (ks.length - k + 1)
abbrev q9_J28 (L : Int) (ks : List Int) (lb c' k : Nat) (x : Int) (H : AHeap) (fr : AFr) (G : AHeap) : Prop := ∃ get : Nat → Value, fr = ⟨79, get⟩ ∧ ∃ (b9 b10 : Nat), Same H.next H G ∧ G.blk H.next = some (.cells [.int .i16 L, .slice (some ⟨lb, 0, none⟩) ks.length c'] 1) ∧ G.blk (H.next + 1) = some (.cells [.int .i16 0, .slice none 0 0] 1) ∧ G.blk (H.next + 2) = some (.cells [.int .i16 0, .slice none 0 0] 1) ∧ G.blk lb = some (.cells (fl i16 ks) 1) ∧ H.next + 3 ≤ G.next ∧ H.next + 3 ≤ b9 ∧ b9 < G.next ∧ G.blk b9 = some (.cells [.int .i16 0, .slice none 0 0] 1) ∧ H.next + 3 ≤ b10 ∧ b10 < G.next ∧ G.blk b10 = some (.cells [.int .i16 0, .slice none 0 0] 1) ∧ b9 ≠ b10 ∧ get 4 = .pointer (some ⟨H.next + 1, 0, none⟩) ∧ get 5 = .pointer (some ⟨H.next + 2, 0, none⟩) ∧ get 8 = .int .i16 x ∧ get 44 = .int .i16 x ∧ get 49 = .slice (some ⟨lb, 0, none⟩) (k + 1) (k + 1 + 1) ∧ get 55 = .int .i16 (L - x) ∧ get 56 = .pointer (some ⟨H.next, 0 + 1, none⟩) ∧ get 58 = .int .i64 k ∧ get 9 = .pointer (some ⟨b9, 0, none⟩) ∧ get 10 = .pointer (some ⟨b10, 0, none⟩)
abbrev q9_J29 (L : Int) (ks : List Int) (lb c' k : Nat) (x : Int) (H : AHeap) (fr : AFr) (G : AHeap) : Prop := ∃ get : Nat → Value, fr = ⟨79, get⟩ ∧ ∃ (b9 b10 : Nat), Same H.next H G ∧ G.blk H.next = some (.cells [.int .i16 L, .slice (some ⟨lb, 0, none⟩) ks.length c'] 1) ∧ G.blk (H.next + 1) = some (.cells [.int .i16 0, .slice none 0 0] 1) ∧ G.blk (H.next + 2) = some (.cells [.int .i16 0, .slice none 0 0] 1) ∧ G.blk lb = some (.cells (fl i16 ks) 1) ∧ H.next + 3 ≤ G.next ∧ H.next + 3 ≤ b9 ∧ b9 < G.next ∧ G.blk b9 = some (.cells [.int .i16 0, .slice none 0 0] 1) ∧ H.next + 3 ≤ b10 ∧ b10 < G.next ∧ G.blk b10 = some (.cells [.int .i16 0, .slice none 0 0] 1) ∧ b9 ≠ b10 ∧ get 4 = .pointer (some ⟨H.next + 1, 0, none⟩) ∧ get 5 = .pointer (some ⟨H.next + 2, 0, none⟩) ∧ get 8 = .int .i16 x ∧ get 44 = .int .i16 x ∧ get 49 = .slice (some ⟨lb, 0, none⟩) (k + 1) (k + 1 + 1) ∧ get 52 = .pointer (some ⟨H.next, 0 + 0, none⟩) ∧ get 54 = .int .i16 x ∧ get 59 = .slice (some ⟨lb, 0 + k * 1, none⟩) (ks.length - k) (ks.length - k + 1) ∧ get 9 = .pointer (some ⟨b9, 0, none⟩) ∧ get 10 = .pointer (some ⟨b10, 0, none⟩)
abbrev q9_J30 (L : Int) (ks : List Int) (lb c' k : Nat) (x : Int) (H : AHeap) (fr : AFr) (G : AHeap) : Prop := ∃ get : Nat → Value, fr = ⟨79, get⟩ ∧ ∃ (b9 b10 : Nat), Same H.next H G ∧ G.blk H.next = some (.cells [.int .i16 L, .slice (some ⟨lb, 0, none⟩) ks.length c'] 1) ∧ G.blk (H.next + 1) = some (.cells [.int .i16 0, .slice none 0 0] 1) ∧ G.blk (H.next + 2) = some (.cells [.int .i16 0, .slice none 0 0] 1) ∧ G.blk lb = some (.cells (fl i16 ks) 1) ∧ H.next + 3 ≤ G.next ∧ H.next + 3 ≤ b9 ∧ b9 < G.next ∧ G.blk b9 = some (.cells [.int .i16 0, .slice none 0 0] 1) ∧ H.next + 3 ≤ b10 ∧ b10 < G.next ∧ G.blk b10 = some (.cells [.int .i16 0, .slice none 0 0] 1) ∧ b9 ≠ b10 ∧ get 4 = .pointer (some ⟨H.next + 1, 0, none⟩) ∧ get 5 = .pointer (some ⟨H.next + 2, 0, none⟩) ∧ get 8 = .int .i16 x ∧ get 44 = .int .i16 x ∧ get 45 = .pointer (some ⟨H.next, 0 + 1, none⟩) ∧ get 48 = .int .i64 ((k + 1 : Nat) : Int) ∧ get 55 = .int .i16 (L - x) ∧ get 59 = .slice (some ⟨lb, 0 + k * 1, none⟩) (ks.length - k) (ks.length - k + 1) ∧ get 9 = .pointer (some ⟨b9, 0, none⟩) ∧ get 10 = .pointer (some ⟨b10, 0, none⟩)
abbrev q9_J31 (L : Int) (ks : List Int) (lb c' k : Nat) (x : Int) (H : AHeap) (fr : AFr) (G : AHeap) : Prop := ∃ get : Nat → Value, fr = ⟨79, get⟩ ∧ ∃ (b50 b9 : Nat), Same H.next H G ∧ G.blk H.next = some (.cells [.int .i16 L, .slice (some ⟨lb, 0, none⟩) ks.length c'] 1) ∧ G.blk (H.next + 1) = some (.cells [.int .i16 0, .slice none 0 0] 1) ∧ G.blk (H.next + 2) = some (.cells [.int .i16 0, .slice none 0 0] 1) ∧ G.blk lb = some (.cells (fl i16 ks) 1) ∧ H.next + 3 ≤ G.next ∧ H.next + 3 ≤ b50 ∧ b50 < G.next ∧ G.blk b50 = some (.cells (fl i16 (ks.take (k + 1))) 1) ∧ H.next + 3 ≤ b9 ∧ b9 < G.next ∧ G.blk b9 = some (.cells [.int .i16 0, .slice none 0 0] 1) ∧ b50 ≠ b9 ∧ get 4 = .pointer (some ⟨H.next + 1, 0, none⟩) ∧ get 5 = .pointer (some ⟨H.next + 2, 0, none⟩) ∧ get 8 = .int .i16 x ∧ get 51 = .agg #[.int .i16 x, .slice (some ⟨b50, 0, none⟩) (ks.take (k + 1)).length ((ks.take (k + 1)).length + 1)] ∧ get 52 = .pointer (some ⟨H.next, 0 + 0, none⟩) ∧ get 54 = .int .i16 x ∧ get 56 = .pointer (some ⟨H.next, 0 + 1, none⟩) ∧ get 58 = .int .i64 k ∧ get 9 = .pointer (some ⟨b9, 0, none⟩)
abbrev q9_J32 (L : Int) (ks : List Int) (lb c' k : Nat) (x : Int) (H : AHeap) (fr : AFr) (G : AHeap) : Prop := ∃ get : Nat → Value, fr = ⟨79, get⟩ ∧ ∃ (b50 b10 : Nat), Same H.next H G ∧ G.blk H.next = some (.cells [.int .i16 L, .slice (some ⟨lb, 0, none⟩) ks.length c'] 1) ∧ G.blk (H.next + 1) = some (.cells [.int .i16 0, .slice none 0 0] 1) ∧ G.blk (H.next + 2) = some (.cells [.int .i16 0, .slice none 0 0] 1) ∧ G.blk lb = some (.cells (fl i16 ks) 1) ∧ H.next + 3 ≤ G.next ∧ H.next + 3 ≤ b50 ∧ b50 < G.next ∧ G.blk b50 = some (.cells (fl i16 (ks.take (k + 1))) 1) ∧ H.next + 3 ≤ b10 ∧ b10 < G.next ∧ G.blk b10 = some (.cells [.int .i16 0, .slice none 0 0] 1) ∧ b50 ≠ b10 ∧ get 4 = .pointer (some ⟨H.next + 1, 0, none⟩) ∧ get 5 = .pointer (some ⟨H.next + 2, 0, none⟩) ∧ get 8 = .int .i16 x ∧ get 51 = .agg #[.int .i16 x, .slice (some ⟨b50, 0, none⟩) (ks.take (k + 1)).length ((ks.take (k + 1)).length + 1)] ∧ get 52 = .pointer (some ⟨H.next, 0 + 0, none⟩) ∧ get 54 = .int .i16 x ∧ get 56 = .pointer (some ⟨H.next, 0 + 1, none⟩) ∧ get 58 = .int .i64 k ∧ get 10 = .pointer (some ⟨b10, 0, none⟩)
abbrev q9_J33 (L : Int) (ks : List Int) (lb c' k : Nat) (x : Int) (H : AHeap) (fr : AFr) (G : AHeap) : Prop := ∃ get : Nat → Value, fr = ⟨79, get⟩ ∧ ∃ (b9 : Nat), Same H.next H G ∧ G.blk H.next = some (.cells [.int .i16 L, .slice (some ⟨lb, 0, none⟩) ks.length c'] 1) ∧ G.blk (H.next + 1) = some (.cells [.int .i16 0, .slice none 0 0] 1) ∧ G.blk (H.next + 2) = some (.cells [.int .i16 0, .slice none 0 0] 1) ∧ G.blk lb = some (.cells (fl i16 ks) 1) ∧ H.next + 3 ≤ G.next ∧ H.next + 3 ≤ b9 ∧ b9 < G.next ∧ G.blk b9 = some (.cells [.int .i16 0, .slice none 0 0] 1) ∧ get 4 = .pointer (some ⟨H.next + 1, 0, none⟩) ∧ get 5 = .pointer (some ⟨H.next + 2, 0, none⟩) ∧ get 8 = .int .i16 x ∧ get 44 = .int .i16 x ∧ get 49 = .slice (some ⟨lb, 0, none⟩) (k + 1) (k + 1 + 1) ∧ get 55 = .int .i16 (L - x) ∧ get 56 = .pointer (some ⟨H.next, 0 + 1, none⟩) ∧ get 58 = .int .i64 k ∧ get 9 = .pointer (some ⟨b9, 0, none⟩)
abbrev q9_J34 (L : Int) (ks : List Int) (lb c' k : Nat) (x : Int) (H : AHeap) (fr : AFr) (G : AHeap) : Prop := ∃ get : Nat → Value, fr = ⟨79, get⟩ ∧ ∃ (b10 : Nat), Same H.next H G ∧ G.blk H.next = some (.cells [.int .i16 L, .slice (some ⟨lb, 0, none⟩) ks.length c'] 1) ∧ G.blk (H.next + 1) = some (.cells [.int .i16 0, .slice none 0 0] 1) ∧ G.blk (H.next + 2) = some (.cells [.int .i16 0, .slice none 0 0] 1) ∧ G.blk lb = some (.cells (fl i16 ks) 1) ∧ H.next + 3 ≤ G.next ∧ H.next + 3 ≤ b10 ∧ b10 < G.next ∧ G.blk b10 = some (.cells [.int .i16 0, .slice none 0 0] 1) ∧ get 4 = .pointer (some ⟨H.next + 1, 0, none⟩) ∧ get 5 = .pointer (some ⟨H.next + 2, 0, none⟩) ∧ get 8 = .int .i16 x ∧ get 44 = .int .i16 x ∧ get 49 = .slice (some ⟨lb, 0, none⟩) (k + 1) (k + 1 + 1) ∧ get 55 = .int .i16 (L - x) ∧ get 56 = .pointer (some ⟨H.next, 0 + 1, none⟩) ∧ get 58 = .int .i64 k ∧ get 10 = .pointer (some ⟨b10, 0, none⟩)
abbrev q9_J35 (L : Int) (ks : List Int) (lb c' k : Nat) (x : Int) (H : AHeap) (fr : AFr) (G : AHeap) : Prop := ∃ get : Nat → Value, fr = ⟨79, get⟩ ∧ ∃ (b9 : Nat), Same H.next H G ∧ G.blk H.next = some (.cells [.int .i16 L, .slice (some ⟨lb, 0, none⟩) ks.length c'] 1) ∧ G.blk (H.next + 1) = some (.cells [.int .i16 0, .slice none 0 0] 1) ∧ G.blk (H.next + 2) = some (.cells [.int .i16 0, .slice none 0 0] 1) ∧ G.blk lb = some (.cells (fl i16 ks) 1) ∧ H.next + 3 ≤ G.next ∧ H.next + 3 ≤ b9 ∧ b9 < G.next ∧ G.blk b9 = some (.cells [.int .i16 0, .slice none 0 0] 1) ∧ get 4 = .pointer (some ⟨H.next + 1, 0, none⟩) ∧ get 5 = .pointer (some ⟨H.next + 2, 0, none⟩) ∧ get 8 = .int .i16 x ∧ get 44 = .int .i16 x ∧ get 49 = .slice (some ⟨lb, 0, none⟩) (k + 1) (k + 1 + 1) ∧ get 52 = .pointer (some ⟨H.next, 0 + 0, none⟩) ∧ get 54 = .int .i16 x ∧ get 59 = .slice (some ⟨lb, 0 + k * 1, none⟩) (ks.length - k) (ks.length - k + 1) ∧ get 9 = .pointer (some ⟨b9, 0, none⟩)
abbrev q9_J36 (L : Int) (ks : List Int) (lb c' k : Nat) (x : Int) (H : AHeap) (fr : AFr) (G : AHeap) : Prop := ∃ get : Nat → Value, fr = ⟨79, get⟩ ∧ ∃ (b10 : Nat), Same H.next H G ∧ G.blk H.next = some (.cells [.int .i16 L, .slice (some ⟨lb, 0, none⟩) ks.length c'] 1) ∧ G.blk (H.next + 1) = some (.cells [.int .i16 0, .slice none 0 0] 1) ∧ G.blk (H.next + 2) = some (.cells [.int .i16 0, .slice none 0 0] 1) ∧ G.blk lb = some (.cells (fl i16 ks) 1) ∧ H.next + 3 ≤ G.next ∧ H.next + 3 ≤ b10 ∧ b10 < G.next ∧ G.blk b10 = some (.cells [.int .i16 0, .slice none 0 0] 1) ∧ get 4 = .pointer (some ⟨H.next + 1, 0, none⟩) ∧ get 5 = .pointer (some ⟨H.next + 2, 0, none⟩) ∧ get 8 = .int .i16 x ∧ get 44 = .int .i16 x ∧ get 49 = .slice (some ⟨lb, 0, none⟩) (k + 1) (k + 1 + 1) ∧ get 52 = .pointer (some ⟨H.next, 0 + 0, none⟩) ∧ get 54 = .int .i16 x ∧ get 59 = .slice (some ⟨lb, 0 + k * 1, none⟩) (ks.length - k) (ks.length - k + 1) ∧ get 10 = .pointer (some ⟨b10, 0, none⟩)
abbrev q9_J37 (L : Int) (ks : List Int) (lb c' k : Nat) (x : Int) (H : AHeap) (fr : AFr) (G : AHeap) : Prop := ∃ get : Nat → Value, fr = ⟨79, get⟩ ∧ ∃ (b9 : Nat), Same H.next H G ∧ G.blk H.next = some (.cells [.int .i16 L, .slice (some ⟨lb, 0, none⟩) ks.length c'] 1) ∧ G.blk (H.next + 1) = some (.cells [.int .i16 0, .slice none 0 0] 1) ∧ G.blk (H.next + 2) = some (.cells [.int .i16 0, .slice none 0 0] 1) ∧ G.blk lb = some (.cells (fl i16 ks) 1) ∧ H.next + 3 ≤ G.next ∧ H.next + 3 ≤ b9 ∧ b9 < G.next ∧ G.blk b9 = some (.cells [.int .i16 0, .slice none 0 0] 1) ∧ get 4 = .pointer (some ⟨H.next + 1, 0, none⟩) ∧ get 5 = .pointer (some ⟨H.next + 2, 0, none⟩) ∧ get 8 = .int .i16 x ∧ get 44 = .int .i16 x ∧ get 45 = .pointer (some ⟨H.next, 0 + 1, none⟩) ∧ get 48 = .int .i64 ((k + 1 : Nat) : Int) ∧ get 55 = .int .i16 (L - x) ∧ get 59 = .slice (some ⟨lb, 0 + k * 1, none⟩) (ks.length - k) (ks.length - k + 1) ∧ get 9 = .pointer (some ⟨b9, 0, none⟩)
abbrev q9_J38 (L : Int) (ks : List Int) (lb c' k : Nat) (x : Int) (H : AHeap) (fr : AFr) (G : AHeap) : Prop := ∃ get : Nat → Value, fr = ⟨79, get⟩ ∧ ∃ (b10 : Nat), Same H.next H G ∧ G.blk H.next = some (.cells [.int .i16 L, .slice (some ⟨lb, 0, none⟩) ks.length c'] 1) ∧ G.blk (H.next + 1) = some (.cells [.int .i16 0, .slice none 0 0] 1) ∧ G.blk (H.next + 2) = some (.cells [.int .i16 0, .slice none 0 0] 1) ∧ G.blk lb = some (.cells (fl i16 ks) 1) ∧ H.next + 3 ≤ G.next ∧ H.next + 3 ≤ b10 ∧ b10 < G.next ∧ G.blk b10 = some (.cells [.int .i16 0, .slice none 0 0] 1) ∧ get 4 = .pointer (some ⟨H.next + 1, 0, none⟩) ∧ get 5 = .pointer (some ⟨H.next + 2, 0, none⟩) ∧ get 8 = .int .i16 x ∧ get 44 = .int .i16 x ∧ get 45 = .pointer (some ⟨H.next, 0 + 1, none⟩) ∧ get 48 = .int .i64 ((k + 1 : Nat) : Int) ∧ get 55 = .int .i16 (L - x) ∧ get 59 = .slice (some ⟨lb, 0 + k * 1, none⟩) (ks.length - k) (ks.length - k + 1) ∧ get 10 = .pointer (some ⟨b10, 0, none⟩)
abbrev q9_J39 (L : Int) (ks : List Int) (lb c' k : Nat) (x : Int) (H : AHeap) (fr : AFr) (G : AHeap) : Prop := ∃ get : Nat → Value, fr = ⟨79, get⟩ ∧ ∃ (b50 : Nat), Same H.next H G ∧ G.blk H.next = some (.cells [.int .i16 L, .slice (some ⟨lb, 0, none⟩) ks.length c'] 1) ∧ G.blk (H.next + 1) = some (.cells [.int .i16 0, .slice none 0 0] 1) ∧ G.blk (H.next + 2) = some (.cells [.int .i16 0, .slice none 0 0] 1) ∧ G.blk lb = some (.cells (fl i16 ks) 1) ∧ H.next + 3 ≤ G.next ∧ H.next + 3 ≤ b50 ∧ b50 < G.next ∧ G.blk b50 = some (.cells (fl i16 (ks.take (k + 1))) 1) ∧ get 4 = .pointer (some ⟨H.next + 1, 0, none⟩) ∧ get 5 = .pointer (some ⟨H.next + 2, 0, none⟩) ∧ get 8 = .int .i16 x ∧ get 51 = .agg #[.int .i16 x, .slice (some ⟨b50, 0, none⟩) (ks.take (k + 1)).length ((ks.take (k + 1)).length + 1)] ∧ get 52 = .pointer (some ⟨H.next, 0 + 0, none⟩) ∧ get 54 = .int .i16 x ∧ get 56 = .pointer (some ⟨H.next, 0 + 1, none⟩) ∧ get 58 = .int .i64 k
abbrev q9_J40 (L : Int) (ks : List Int) (lb c' k : Nat) (x : Int) (H : AHeap) (fr : AFr) (G : AHeap) : Prop := ∃ get : Nat → Value, fr = ⟨79, get⟩ ∧ Same H.next H G ∧ G.blk H.next = some (.cells [.int .i16 L, .slice (some ⟨lb, 0, none⟩) ks.length c'] 1) ∧ G.blk (H.next + 1) = some (.cells [.int .i16 0, .slice none 0 0] 1) ∧ G.blk (H.next + 2) = some (.cells [.int .i16 0, .slice none 0 0] 1) ∧ G.blk lb = some (.cells (fl i16 ks) 1) ∧ H.next + 3 ≤ G.next ∧ get 4 = .pointer (some ⟨H.next + 1, 0, none⟩) ∧ get 5 = .pointer (some ⟨H.next + 2, 0, none⟩) ∧ get 8 = .int .i16 x ∧ get 44 = .int .i16 x ∧ get 49 = .slice (some ⟨lb, 0, none⟩) (k + 1) (k + 1 + 1) ∧ get 55 = .int .i16 (L - x) ∧ get 56 = .pointer (some ⟨H.next, 0 + 1, none⟩) ∧ get 58 = .int .i64 k
abbrev q9_J41 (L : Int) (ks : List Int) (lb c' k : Nat) (x : Int) (H : AHeap) (fr : AFr) (G : AHeap) : Prop := ∃ get : Nat → Value, fr = ⟨79, get⟩ ∧ Same H.next H G ∧ G.blk H.next = some (.cells [.int .i16 L, .slice (some ⟨lb, 0, none⟩) ks.length c'] 1) ∧ G.blk (H.next + 1) = some (.cells [.int .i16 0, .slice none 0 0] 1) ∧ G.blk (H.next + 2) = some (.cells [.int .i16 0, .slice none 0 0] 1) ∧ G.blk lb = some (.cells (fl i16 ks) 1) ∧ H.next + 3 ≤ G.next ∧ get 4 = .pointer (some ⟨H.next + 1, 0, none⟩) ∧ get 5 = .pointer (some ⟨H.next + 2, 0, none⟩) ∧ get 8 = .int .i16 x ∧ get 44 = .int .i16 x ∧ get 49 = .slice (some ⟨lb, 0, none⟩) (k + 1) (k + 1 + 1) ∧ get 52 = .pointer (some ⟨H.next, 0 + 0, none⟩) ∧ get 54 = .int .i16 x ∧ get 59 = .slice (some ⟨lb, 0 + k * 1, none⟩) (ks.length - k) (ks.length - k + 1)
abbrev q9_J42 (L : Int) (ks : List Int) (lb c' k : Nat) (x : Int) (H : AHeap) (fr : AFr) (G : AHeap) : Prop := ∃ get : Nat → Value, fr = ⟨79, get⟩ ∧ ∃ (b9 b10 : Nat), Same H.next H G ∧ G.blk H.next = some (.cells [.int .i16 L, .slice (some ⟨lb, 0, none⟩) ks.length c'] 1) ∧ G.blk (H.next + 1) = some (.cells [.int .i16 0, .slice none 0 0] 1) ∧ G.blk (H.next + 2) = some (.cells [.int .i16 0, .slice none 0 0] 1) ∧ G.blk lb = some (.cells (fl i16 ks) 1) ∧ H.next + 3 ≤ G.next ∧ H.next + 3 ≤ b9 ∧ b9 < G.next ∧ G.blk b9 = some (.cells [.int .i16 0, .slice none 0 0] 1) ∧ H.next + 3 ≤ b10 ∧ b10 < G.next ∧ G.blk b10 = some (.cells [.int .i16 0, .slice none 0 0] 1) ∧ b9 ≠ b10 ∧ get 4 = .pointer (some ⟨H.next + 1, 0, none⟩) ∧ get 5 = .pointer (some ⟨H.next + 2, 0, none⟩) ∧ get 8 = .int .i16 x ∧ get 44 = .int .i16 x ∧ get 49 = .slice (some ⟨lb, 0, none⟩) (k + 1) (k + 1 + 1) ∧ get 52 = .pointer (some ⟨H.next, 0 + 0, none⟩) ∧ get 54 = .int .i16 x ∧ get 56 = .pointer (some ⟨H.next, 0 + 1, none⟩) ∧ get 58 = .int .i64 k ∧ get 9 = .pointer (some ⟨b9, 0, none⟩) ∧ get 10 = .pointer (some ⟨b10, 0, none⟩)
abbrev q9_J43 (L : Int) (ks : List Int) (lb c' k : Nat) (x : Int) (H : AHeap) (fr : AFr) (G : AHeap) : Prop := ∃ get : Nat → Value, fr = ⟨79, get⟩ ∧ Same H.next H G ∧ G.blk H.next = some (.cells [.int .i16 L, .slice (some ⟨lb, 0, none⟩) ks.length c'] 1) ∧ G.blk (H.next + 1) = some (.cells [.int .i16 0, .slice none 0 0] 1) ∧ G.blk (H.next + 2) = some (.cells [.int .i16 0, .slice none 0 0] 1) ∧ G.blk lb = some (.cells (fl i16 ks) 1) ∧ H.next + 3 ≤ G.next ∧ get 4 = .pointer (some ⟨H.next + 1, 0, none⟩) ∧ get 5 = .pointer (some ⟨H.next + 2, 0, none⟩) ∧ get 8 = .int .i16 x ∧ get 44 = .int .i16 x ∧ get 45 = .pointer (some ⟨H.next, 0 + 1, none⟩) ∧ get 48 = .int .i64 ((k + 1 : Nat) : Int) ∧ get 55 = .int .i16 (L - x) ∧ get 59 = .slice (some ⟨lb, 0 + k * 1, none⟩) (ks.length - k) (ks.length - k + 1)
abbrev q9_J44 (L : Int) (ks : List Int) (lb c' k : Nat) (x : Int) (H : AHeap) (fr : AFr) (G : AHeap) : Prop := ∃ get : Nat → Value, fr = ⟨79, get⟩ ∧ ∃ (b9 b10 : Nat), Same H.next H G ∧ G.blk H.next = some (.cells [.int .i16 L, .slice (some ⟨lb, 0, none⟩) ks.length c'] 1) ∧ G.blk (H.next + 1) = some (.cells [.int .i16 0, .slice none 0 0] 1) ∧ G.blk (H.next + 2) = some (.cells [.int .i16 0, .slice none 0 0] 1) ∧ G.blk lb = some (.cells (fl i16 ks) 1) ∧ H.next + 3 ≤ G.next ∧ H.next + 3 ≤ b9 ∧ b9 < G.next ∧ G.blk b9 = some (.cells [.int .i16 0, .slice none 0 0] 1) ∧ H.next + 3 ≤ b10 ∧ b10 < G.next ∧ G.blk b10 = some (.cells [.int .i16 0, .slice none 0 0] 1) ∧ b9 ≠ b10 ∧ get 4 = .pointer (some ⟨H.next + 1, 0, none⟩) ∧ get 5 = .pointer (some ⟨H.next + 2, 0, none⟩) ∧ get 8 = .int .i16 x ∧ get 44 = .int .i16 x ∧ get 45 = .pointer (some ⟨H.next, 0 + 1, none⟩) ∧ get 48 = .int .i64 ((k + 1 : Nat) : Int) ∧ get 55 = .int .i16 (L - x) ∧ get 56 = .pointer (some ⟨H.next, 0 + 1, none⟩) ∧ get 58 = .int .i64 k ∧ get 9 = .pointer (some ⟨b9, 0, none⟩) ∧ get 10 = .pointer (some ⟨b10, 0, none⟩)
abbrev q9_J45 (L : Int) (ks : List Int) (lb c' k : Nat) (x : Int) (H : AHeap) (fr : AFr) (G : AHeap) : Prop := ∃ get : Nat → Value, fr = ⟨79, get⟩ ∧ ∃ (b9 b10 : Nat), Same H.next H G ∧ G.blk H.next = some (.cells [.int .i16 L, .slice (some ⟨lb, 0, none⟩) ks.length c'] 1) ∧ G.blk (H.next + 1) = some (.cells [.int .i16 0, .slice none 0 0] 1) ∧ G.blk (H.next + 2) = some (.cells [.int .i16 0, .slice none 0 0] 1) ∧ G.blk lb = some (.cells (fl i16 ks) 1) ∧ H.next + 3 ≤ G.next ∧ H.next + 3 ≤ b9 ∧ b9 < G.next ∧ G.blk b9 = some (.cells [.int .i16 0, .slice none 0 0] 1) ∧ H.next + 3 ≤ b10 ∧ b10 < G.next ∧ G.blk b10 = some (.cells [.int .i16 0, .slice none 0 0] 1) ∧ b9 ≠ b10 ∧ get 4 = .pointer (some ⟨H.next + 1, 0, none⟩) ∧ get 5 = .pointer (some ⟨H.next + 2, 0, none⟩) ∧ get 8 = .int .i16 x ∧ get 44 = .int .i16 x ∧ get 45 = .pointer (some ⟨H.next, 0 + 1, none⟩) ∧ get 48 = .int .i64 ((k + 1 : Nat) : Int) ∧ get 52 = .pointer (some ⟨H.next, 0 + 0, none⟩) ∧ get 54 = .int .i16 x ∧ get 59 = .slice (some ⟨lb, 0 + k * 1, none⟩) (ks.length - k) (ks.length - k + 1) ∧ get 9 = .pointer (some ⟨b9, 0, none⟩) ∧ get 10 = .pointer (some ⟨b10, 0, none⟩)
abbrev q9_J46 (L : Int) (ks : List Int) (lb c' k : Nat) (x : Int) (H : AHeap) (fr : AFr) (G : AHeap) : Prop := ∃ get : Nat → Value, fr = ⟨79, get⟩ ∧ ∃ (b9 : Nat), Same H.next H G ∧ G.blk H.next = some (.cells [.int .i16 L, .slice (some ⟨lb, 0, none⟩) ks.length c'] 1) ∧ G.blk (H.next + 1) = some (.cells [.int .i16 0, .slice none 0 0] 1) ∧ G.blk (H.next + 2) = some (.cells [.int .i16 0, .slice none 0 0] 1) ∧ G.blk lb = some (.cells (fl i16 ks) 1) ∧ H.next + 3 ≤ G.next ∧ H.next + 3 ≤ b9 ∧ b9 < G.next ∧ G.blk b9 = some (.cells [.int .i16 0, .slice none 0 0] 1) ∧ get 4 = .pointer (some ⟨H.next + 1, 0, none⟩) ∧ get 5 = .pointer (some ⟨H.next + 2, 0, none⟩) ∧ get 8 = .int .i16 x ∧ get 44 = .int .i16 x ∧ get 49 = .slice (some ⟨lb, 0, none⟩) (k + 1) (k + 1 + 1) ∧ get 52 = .pointer (some ⟨H.next, 0 + 0, none⟩) ∧ get 54 = .int .i16 x ∧ get 56 = .pointer (some ⟨H.next, 0 + 1, none⟩) ∧ get 58 = .int .i64 k ∧ get 9 = .pointer (some ⟨b9, 0, none⟩)
abbrev q9_J47 (L : Int) (ks : List Int) (lb c' k : Nat) (x : Int) (H : AHeap) (fr : AFr) (G : AHeap) : Prop := ∃ get : Nat → Value, fr = ⟨79, get⟩ ∧ ∃ (b10 : Nat), Same H.next H G ∧ G.blk H.next = some (.cells [.int .i16 L, .slice (some ⟨lb, 0, none⟩) ks.length c'] 1) ∧ G.blk (H.next + 1) = some (.cells [.int .i16 0, .slice none 0 0] 1) ∧ G.blk (H.next + 2) = some (.cells [.int .i16 0, .slice none 0 0] 1) ∧ G.blk lb = some (.cells (fl i16 ks) 1) ∧ H.next + 3 ≤ G.next ∧ H.next + 3 ≤ b10 ∧ b10 < G.next ∧ G.blk b10 = some (.cells [.int .i16 0, .slice none 0 0] 1) ∧ get 4 = .pointer (some ⟨H.next + 1, 0, none⟩) ∧ get 5 = .pointer (some ⟨H.next + 2, 0, none⟩) ∧ get 8 = .int .i16 x ∧ get 44 = .int .i16 x ∧ get 49 = .slice (some ⟨lb, 0, none⟩) (k + 1) (k + 1 + 1) ∧ get 52 = .pointer (some ⟨H.next, 0 + 0, none⟩) ∧ get 54 = .int .i16 x ∧ get 56 = .pointer (some ⟨H.next, 0 + 1, none⟩) ∧ get 58 = .int .i64 k ∧ get 10 = .pointer (some ⟨b10, 0, none⟩)
abbrev q9_J48 (L : Int) (ks : List Int) (lb c' k : Nat) (x : Int) (H : AHeap) (fr : AFr) (G : AHeap) : Prop := ∃ get : Nat → Value, fr = ⟨79, get⟩ ∧ ∃ (b9 : Nat), Same H.next H G ∧ G.blk H.next = some (.cells [.int .i16 L, .slice (some ⟨lb, 0, none⟩) ks.length c'] 1) ∧ G.blk (H.next + 1) = some (.cells [.int .i16 0, .slice none 0 0] 1) ∧ G.blk (H.next + 2) = some (.cells [.int .i16 0, .slice none 0 0] 1) ∧ G.blk lb = some (.cells (fl i16 ks) 1) ∧ H.next + 3 ≤ G.next ∧ H.next + 3 ≤ b9 ∧ b9 < G.next ∧ G.blk b9 = some (.cells [.int .i16 0, .slice none 0 0] 1) ∧ get 4 = .pointer (some ⟨H.next + 1, 0, none⟩) ∧ get 5 = .pointer (some ⟨H.next + 2, 0, none⟩) ∧ get 8 = .int .i16 x ∧ get 44 = .int .i16 x ∧ get 45 = .pointer (some ⟨H.next, 0 + 1, none⟩) ∧ get 48 = .int .i64 ((k + 1 : Nat) : Int) ∧ get 55 = .int .i16 (L - x) ∧ get 56 = .pointer (some ⟨H.next, 0 + 1, none⟩) ∧ get 58 = .int .i64 k ∧ get 9 = .pointer (some ⟨b9, 0, none⟩)
abbrev q9_J49 (L : Int) (ks : List Int) (lb c' k : Nat) (x : Int) (H : AHeap) (fr : AFr) (G : AHeap) : Prop := ∃ get : Nat → Value, fr = ⟨79, get⟩ ∧ ∃ (b10 : Nat), Same H.next H G ∧ G.blk H.next = some (.cells [.int .i16 L, .slice (some ⟨lb, 0, none⟩) ks.length c'] 1) ∧ G.blk (H.next + 1) = some (.cells [.int .i16 0, .slice none 0 0] 1) ∧ G.blk (H.next + 2) = some (.cells [.int .i16 0, .slice none 0 0] 1) ∧ G.blk lb = some (.cells (fl i16 ks) 1) ∧ H.next + 3 ≤ G.next ∧ H.next + 3 ≤ b10 ∧ b10 < G.next ∧ G.blk b10 = some (.cells [.int .i16 0, .slice none 0 0] 1) ∧ get 4 = .pointer (some ⟨H.next + 1, 0, none⟩) ∧ get 5 = .pointer (some ⟨H.next + 2, 0, none⟩) ∧ get 8 = .int .i16 x ∧ get 44 = .int .i16 x ∧ get 45 = .pointer (some ⟨H.next, 0 + 1, none⟩) ∧ get 48 = .int .i64 ((k + 1 : Nat) : Int) ∧ get 55 = .int .i16 (L - x) ∧ get 56 = .pointer (some ⟨H.next, 0 + 1, none⟩) ∧ get 58 = .int .i64 k ∧ get 10 = .pointer (some ⟨b10, 0, none⟩)
abbrev q9_J50 (L : Int) (ks : List Int) (lb c' k : Nat) (x : Int) (H : AHeap) (fr : AFr) (G : AHeap) : Prop := ∃ get : Nat → Value, fr = ⟨79, get⟩ ∧ ∃ (b9 : Nat), Same H.next H G ∧ G.blk H.next = some (.cells [.int .i16 L, .slice (some ⟨lb, 0, none⟩) ks.length c'] 1) ∧ G.blk (H.next + 1) = some (.cells [.int .i16 0, .slice none 0 0] 1) ∧ G.blk (H.next + 2) = some (.cells [.int .i16 0, .slice none 0 0] 1) ∧ G.blk lb = some (.cells (fl i16 ks) 1) ∧ H.next + 3 ≤ G.next ∧ H.next + 3 ≤ b9 ∧ b9 < G.next ∧ G.blk b9 = some (.cells [.int .i16 0, .slice none 0 0] 1) ∧ get 4 = .pointer (some ⟨H.next + 1, 0, none⟩) ∧ get 5 = .pointer (some ⟨H.next + 2, 0, none⟩) ∧ get 8 = .int .i16 x ∧ get 44 = .int .i16 x ∧ get 45 = .pointer (some ⟨H.next, 0 + 1, none⟩) ∧ get 48 = .int .i64 ((k + 1 : Nat) : Int) ∧ get 52 = .pointer (some ⟨H.next, 0 + 0, none⟩) ∧ get 54 = .int .i16 x ∧ get 59 = .slice (some ⟨lb, 0 + k * 1, none⟩) (ks.length - k) (ks.length - k + 1) ∧ get 9 = .pointer (some ⟨b9, 0, none⟩)
abbrev q9_J51 (L : Int) (ks : List Int) (lb c' k : Nat) (x : Int) (H : AHeap) (fr : AFr) (G : AHeap) : Prop := ∃ get : Nat → Value, fr = ⟨79, get⟩ ∧ ∃ (b10 : Nat), Same H.next H G ∧ G.blk H.next = some (.cells [.int .i16 L, .slice (some ⟨lb, 0, none⟩) ks.length c'] 1) ∧ G.blk (H.next + 1) = some (.cells [.int .i16 0, .slice none 0 0] 1) ∧ G.blk (H.next + 2) = some (.cells [.int .i16 0, .slice none 0 0] 1) ∧ G.blk lb = some (.cells (fl i16 ks) 1) ∧ H.next + 3 ≤ G.next ∧ H.next + 3 ≤ b10 ∧ b10 < G.next ∧ G.blk b10 = some (.cells [.int .i16 0, .slice none 0 0] 1) ∧ get 4 = .pointer (some ⟨H.next + 1, 0, none⟩) ∧ get 5 = .pointer (some ⟨H.next + 2, 0, none⟩) ∧ get 8 = .int .i16 x ∧ get 44 = .int .i16 x ∧ get 45 = .pointer (some ⟨H.next, 0 + 1, none⟩) ∧ get 48 = .int .i64 ((k + 1 : Nat) : Int) ∧ get 52 = .pointer (some ⟨H.next, 0 + 0, none⟩) ∧ get 54 = .int .i16 x ∧ get 59 = .slice (some ⟨lb, 0 + k * 1, none⟩) (ks.length - k) (ks.length - k + 1) ∧ get 10 = .pointer (some ⟨b10, 0, none⟩)
abbrev q9_J52 (L : Int) (ks : List Int) (lb c' k : Nat) (x : Int) (H : AHeap) (fr : AFr) (G : AHeap) : Prop := ∃ get : Nat → Value, fr = ⟨79, get⟩ ∧ Same H.next H G ∧ G.blk H.next = some (.cells [.int .i16 L, .slice (some ⟨lb, 0, none⟩) ks.length c'] 1) ∧ G.blk (H.next + 1) = some (.cells [.int .i16 0, .slice none 0 0] 1) ∧ G.blk (H.next + 2) = some (.cells [.int .i16 0, .slice none 0 0] 1) ∧ G.blk lb = some (.cells (fl i16 ks) 1) ∧ H.next + 3 ≤ G.next ∧ get 4 = .pointer (some ⟨H.next + 1, 0, none⟩) ∧ get 5 = .pointer (some ⟨H.next + 2, 0, none⟩) ∧ get 8 = .int .i16 x ∧ get 44 = .int .i16 x ∧ get 49 = .slice (some ⟨lb, 0, none⟩) (k + 1) (k + 1 + 1) ∧ get 52 = .pointer (some ⟨H.next, 0 + 0, none⟩) ∧ get 54 = .int .i16 x ∧ get 56 = .pointer (some ⟨H.next, 0 + 1, none⟩) ∧ get 58 = .int .i64 k
abbrev q9_J53 (L : Int) (ks : List Int) (lb c' k : Nat) (x : Int) (H : AHeap) (fr : AFr) (G : AHeap) : Prop := ∃ get : Nat → Value, fr = ⟨79, get⟩ ∧ Same H.next H G ∧ G.blk H.next = some (.cells [.int .i16 L, .slice (some ⟨lb, 0, none⟩) ks.length c'] 1) ∧ G.blk (H.next + 1) = some (.cells [.int .i16 0, .slice none 0 0] 1) ∧ G.blk (H.next + 2) = some (.cells [.int .i16 0, .slice none 0 0] 1) ∧ G.blk lb = some (.cells (fl i16 ks) 1) ∧ H.next + 3 ≤ G.next ∧ get 4 = .pointer (some ⟨H.next + 1, 0, none⟩) ∧ get 5 = .pointer (some ⟨H.next + 2, 0, none⟩) ∧ get 8 = .int .i16 x ∧ get 44 = .int .i16 x ∧ get 45 = .pointer (some ⟨H.next, 0 + 1, none⟩) ∧ get 48 = .int .i64 ((k + 1 : Nat) : Int) ∧ get 55 = .int .i16 (L - x) ∧ get 56 = .pointer (some ⟨H.next, 0 + 1, none⟩) ∧ get 58 = .int .i64 k
abbrev q9_J54 (L : Int) (ks : List Int) (lb c' k : Nat) (x : Int) (H : AHeap) (fr : AFr) (G : AHeap) : Prop := ∃ get : Nat → Value, fr = ⟨79, get⟩ ∧ Same H.next H G ∧ G.blk H.next = some (.cells [.int .i16 L, .slice (some ⟨lb, 0, none⟩) ks.length c'] 1) ∧ G.blk (H.next + 1) = some (.cells [.int .i16 0, .slice none 0 0] 1) ∧ G.blk (H.next + 2) = some (.cells [.int .i16 0, .slice none 0 0] 1) ∧ G.blk lb = some (.cells (fl i16 ks) 1) ∧ H.next + 3 ≤ G.next ∧ get 4 = .pointer (some ⟨H.next + 1, 0, none⟩) ∧ get 5 = .pointer (some ⟨H.next + 2, 0, none⟩) ∧ get 8 = .int .i16 x ∧ get 44 = .int .i16 x ∧ get 45 = .pointer (some ⟨H.next, 0 + 1, none⟩) ∧ get 48 = .int .i64 ((k + 1 : Nat) : Int) ∧ get 52 = .pointer (some ⟨H.next, 0 + 0, none⟩) ∧ get 54 = .int .i16 x ∧ get 59 = .slice (some ⟨lb, 0 + k * 1, none⟩) (ks.length - k) (ks.length - k + 1)
abbrev q9_J55 (L : Int) (ks : List Int) (lb c' k : Nat) (x : Int) (H : AHeap) (fr : AFr) (G : AHeap) : Prop := ∃ get : Nat → Value, fr = ⟨79, get⟩ ∧ ∃ (b9 b10 : Nat), Same H.next H G ∧ G.blk H.next = some (.cells [.int .i16 L, .slice (some ⟨lb, 0, none⟩) ks.length c'] 1) ∧ G.blk (H.next + 1) = some (.cells [.int .i16 0, .slice none 0 0] 1) ∧ G.blk (H.next + 2) = some (.cells [.int .i16 0, .slice none 0 0] 1) ∧ G.blk lb = some (.cells (fl i16 ks) 1) ∧ H.next + 3 ≤ G.next ∧ H.next + 3 ≤ b9 ∧ b9 < G.next ∧ G.blk b9 = some (.cells [.int .i16 0, .slice none 0 0] 1) ∧ H.next + 3 ≤ b10 ∧ b10 < G.next ∧ G.blk b10 = some (.cells [.int .i16 0, .slice none 0 0] 1) ∧ b9 ≠ b10 ∧ get 4 = .pointer (some ⟨H.next + 1, 0, none⟩) ∧ get 5 = .pointer (some ⟨H.next + 2, 0, none⟩) ∧ get 8 = .int .i16 x ∧ get 44 = .int .i16 x ∧ get 45 = .pointer (some ⟨H.next, 0 + 1, none⟩) ∧ get 48 = .int .i64 ((k + 1 : Nat) : Int) ∧ get 52 = .pointer (some ⟨H.next, 0 + 0, none⟩) ∧ get 54 = .int .i16 x ∧ get 56 = .pointer (some ⟨H.next, 0 + 1, none⟩) ∧ get 58 = .int .i64 k ∧ get 9 = .pointer (some ⟨b9, 0, none⟩) ∧ get 10 = .pointer (some ⟨b10, 0, none⟩)
abbrev q9_J56 (L : Int) (ks : List Int) (lb c' k : Nat) (x : Int) (H : AHeap) (fr : AFr) (G : AHeap) : Prop := ∃ get : Nat → Value, fr = ⟨79, get⟩ ∧ ∃ (b9 : Nat), Same H.next H G ∧ G.blk H.next = some (.cells [.int .i16 L, .slice (some ⟨lb, 0, none⟩) ks.length c'] 1) ∧ G.blk (H.next + 1) = some (.cells [.int .i16 0, .slice none 0 0] 1) ∧ G.blk (H.next + 2) = some (.cells [.int .i16 0, .slice none 0 0] 1) ∧ G.blk lb = some (.cells (fl i16 ks) 1) ∧ H.next + 3 ≤ G.next ∧ H.next + 3 ≤ b9 ∧ b9 < G.next ∧ G.blk b9 = some (.cells [.int .i16 0, .slice none 0 0] 1) ∧ get 4 = .pointer (some ⟨H.next + 1, 0, none⟩) ∧ get 5 = .pointer (some ⟨H.next + 2, 0, none⟩) ∧ get 8 = .int .i16 x ∧ get 44 = .int .i16 x ∧ get 45 = .pointer (some ⟨H.next, 0 + 1, none⟩) ∧ get 48 = .int .i64 ((k + 1 : Nat) : Int) ∧ get 52 = .pointer (some ⟨H.next, 0 + 0, none⟩) ∧ get 54 = .int .i16 x ∧ get 56 = .pointer (some ⟨H.next, 0 + 1, none⟩) ∧ get 58 = .int .i64 k ∧ get 9 = .pointer (some ⟨b9, 0, none⟩)
abbrev q9_J57 (L : Int) (ks : List Int) (lb c' k : Nat) (x : Int) (H : AHeap) (fr : AFr) (G : AHeap) : Prop := ∃ get : Nat → Value, fr = ⟨79, get⟩ ∧ ∃ (b10 : Nat), Same H.next H G ∧ G.blk H.next = some (.cells [.int .i16 L, .slice (some ⟨lb, 0, none⟩) ks.length c'] 1) ∧ G.blk (H.next + 1) = some (.cells [.int .i16 0, .slice none 0 0] 1) ∧ G.blk (H.next + 2) = some (.cells [.int .i16 0, .slice none 0 0] 1) ∧ G.blk lb = some (.cells (fl i16 ks) 1) ∧ H.next + 3 ≤ G.next ∧ H.next + 3 ≤ b10 ∧ b10 < G.next ∧ G.blk b10 = some (.cells [.int .i16 0, .slice none 0 0] 1) ∧ get 4 = .pointer (some ⟨H.next + 1, 0, none⟩) ∧ get 5 = .pointer (some ⟨H.next + 2, 0, none⟩) ∧ get 8 = .int .i16 x ∧ get 44 = .int .i16 x ∧ get 45 = .pointer (some ⟨H.next, 0 + 1, none⟩) ∧ get 48 = .int .i64 ((k + 1 : Nat) : Int) ∧ get 52 = .pointer (some ⟨H.next, 0 + 0, none⟩) ∧ get 54 = .int .i16 x ∧ get 56 = .pointer (some ⟨H.next, 0 + 1, none⟩) ∧ get 58 = .int .i64 k ∧ get 10 = .pointer (some ⟨b10, 0, none⟩)
abbrev q9_J58 (L : Int) (ks : List Int) (lb c' k : Nat) (x : Int) (H : AHeap) (fr : AFr) (G : AHeap) : Prop := ∃ get : Nat → Value, fr = ⟨79, get⟩ ∧ Same H.next H G ∧ G.blk H.next = some (.cells [.int .i16 L, .slice (some ⟨lb, 0, none⟩) ks.length c'] 1) ∧ G.blk (H.next + 1) = some (.cells [.int .i16 0, .slice none 0 0] 1) ∧ G.blk (H.next + 2) = some (.cells [.int .i16 0, .slice none 0 0] 1) ∧ G.blk lb = some (.cells (fl i16 ks) 1) ∧ H.next + 3 ≤ G.next ∧ get 4 = .pointer (some ⟨H.next + 1, 0, none⟩) ∧ get 5 = .pointer (some ⟨H.next + 2, 0, none⟩) ∧ get 8 = .int .i16 x ∧ get 44 = .int .i16 x ∧ get 45 = .pointer (some ⟨H.next, 0 + 1, none⟩) ∧ get 48 = .int .i64 ((k + 1 : Nat) : Int) ∧ get 52 = .pointer (some ⟨H.next, 0 + 0, none⟩) ∧ get 54 = .int .i16 x ∧ get 56 = .pointer (some ⟨H.next, 0 + 1, none⟩) ∧ get 58 = .int .i64 k
abbrev q9_J59 (L : Int) (ks : List Int) (lb c' k : Nat) (x : Int) (H : AHeap) (fr : AFr) (G : AHeap) : Prop := ∃ get : Nat → Value, fr = ⟨79, get⟩ ∧ Same H.next H G ∧ G.blk H.next = some (.cells [.int .i16 L, .slice (some ⟨lb, 0, none⟩) ks.length c'] 1) ∧ G.blk (H.next + 1) = some (.cells [.int .i16 0, .slice none 0 0] 1) ∧ G.blk (H.next + 2) = some (.cells [.int .i16 0, .slice none 0 0] 1) ∧ G.blk lb = some (.cells (fl i16 ks) 1) ∧ H.next + 3 ≤ G.next ∧ get 1 = .int .i64 k ∧ get 2 = .pointer (some ⟨H.next, 0, none⟩) ∧ get 4 = .pointer (some ⟨H.next + 1, 0, none⟩) ∧ get 5 = .pointer (some ⟨H.next + 2, 0, none⟩) ∧ get 8 = .int .i16 x
set_option maxHeartbeats 4000000 in
theorem q9_st_0 {L : Int} {ks : List Int} {lb c' k : Nat} {x : Int} {H : AHeap} {Q : Exit → AFr → AHeap → Prop} (hkl : H.blk lb = some (.cells (fl i16 ks) 1)) (hcc : ks.length ≤ c') (hlen : ks.length ≤ 4194304) (hL : -32768 ≤ L ∧ L ≤ 32767) (hv : okRope L ks) (h1 : 0 < k) (h2 : k + 1 < ks.length) (hx : ks[k]? = some x) (hp : ∀ c fr G, ¬ Q (.panic c) fr G) (hfin : ∀ fr G, q9_J0 L ks lb c' k x H fr G → Q .normal fr G) : ∀ fr G, q9_J0 L ks lb c' k x H fr G → AA Try.prog ops_q9 Q 0 q9_l0 fr G := by
  have hlt0 := AHeap.lt hkl
  have ⟨v1, v2, v3, v4, v5, v6, v7⟩ := hv
  have bx := hv.bnd hx
  have hcl := cutB_len ks k x
  have htl : (ks.take (k + 1)).length = k + 1 := by simp; omega
  have hdl : (ks.drop k).length = ks.length - k := by simp
  exact fun fr G h => aa_done (by kernel_rfl) (hfin fr G h)
set_option maxHeartbeats 4000000 in
theorem q9_st_1 {L : Int} {ks : List Int} {lb c' k : Nat} {x : Int} {H : AHeap} {Q : Exit → AFr → AHeap → Prop} (hkl : H.blk lb = some (.cells (fl i16 ks) 1)) (hcc : ks.length ≤ c') (hlen : ks.length ≤ 4194304) (hL : -32768 ≤ L ∧ L ≤ 32767) (hv : okRope L ks) (h1 : 0 < k) (h2 : k + 1 < ks.length) (hx : ks[k]? = some x) (hp : ∀ c fr G, ¬ Q (.panic c) fr G) (hfin : ∀ fr G, q9_J0 L ks lb c' k x H fr G → Q .normal fr G) : ∀ fr G, q9_J1 L ks lb c' k x H fr G → AA Try.prog ops_q9 Q 1 q9_l1 fr G := by
  have hlt0 := AHeap.lt hkl
  have ⟨v1, v2, v3, v4, v5, v6, v7⟩ := hv
  have bx := hv.bnd hx
  have hcl := cutB_len ks k x
  have htl : (ks.take (k + 1)).length = k + 1 := by simp; omega
  have hdl : (ks.drop k).length = ks.length - k := by simp
  rintro fr G ⟨get, rfl, b50, b60, b9, b10, hk0, hk1, hk2, hk3, hk4, hn, hl50, hu50, hc50, hl60, hu60, hc60, hl9, hu9, hc9, hl10, hu10, hc10, he50_60, he50_9, he60_9, he50_10, he60_10, he9_10, g4, g5, g8, g61, g9, g10⟩
  refine aa_slot (d := 4) (v := .pointer (some ⟨H.next + 1, 0, none⟩)) g4 ?_
  refine aa_slot (d := 5) (v := .pointer (some ⟨H.next + 2, 0, none⟩)) g5 ?_
  refine aa_slot (d := 8) (v := .int .i16 x) g8 ?_
  refine aa_slot (d := 61) (v := .agg #[.int .i16 (L - x), .slice (some ⟨b60, 0, none⟩) (ks.drop k).length ((ks.drop k).length + 1)]) g61 ?_
  refine aa_slot (d := 9) (v := .pointer (some ⟨b9, 0, none⟩)) g9 ?_
  refine aa_slot (d := 10) (v := .pointer (some ⟨b10, 0, none⟩)) g10 ?_
  refine aax1 (i := 21) (by kernel_rfl) ?_
  · exact aa_oL (listed' := q9_l0) rfl rfl rfl rfl (by kernel_rfl) ((ao_storeL Try.sizeOf27 (by rfl) (by rfl) (by exact HLp) (by exact RFp) (by exact RFp) (by exact RFp)).to (SetR.eq (by exact SRp))) (q9_st_0 hkl hcc hlen hL hv h1 h2 hx hp hfin _ _ ⟨_, rfl, b50, b60, b9, b10, hk0.set (by omega) _, (blk_set_ne (by omega)).trans hk1, (blk_set_ne (by omega)).trans hk2, (blk_set_ne (by omega)).trans hk3, (blk_set_ne (by omega)).trans hk4, hn, hl50, hu50, (blk_set_ne he50_10).trans hc50, hl60, hu60, (blk_set_ne he60_10).trans hc60, hl9, hu9, (blk_set_ne he9_10).trans hc9, hl10, hu10, blk_set_same hc10, he50_60, he50_9, he60_9, he50_10, he60_10, he9_10, rfl, rfl, rfl, rfl, rfl⟩)
set_option maxHeartbeats 4000000 in
theorem q9_st_2 {L : Int} {ks : List Int} {lb c' k : Nat} {x : Int} {H : AHeap} {Q : Exit → AFr → AHeap → Prop} (hkl : H.blk lb = some (.cells (fl i16 ks) 1)) (hcc : ks.length ≤ c') (hlen : ks.length ≤ 4194304) (hL : -32768 ≤ L ∧ L ≤ 32767) (hv : okRope L ks) (h1 : 0 < k) (h2 : k + 1 < ks.length) (hx : ks[k]? = some x) (hp : ∀ c fr G, ¬ Q (.panic c) fr G) (hfin : ∀ fr G, q9_J0 L ks lb c' k x H fr G → Q .normal fr G) : ∀ fr G, q9_J2 L ks lb c' k x H fr G → AA Try.prog ops_q9 Q 2 q9_l2 fr G := by
  have hlt0 := AHeap.lt hkl
  have ⟨v1, v2, v3, v4, v5, v6, v7⟩ := hv
  have bx := hv.bnd hx
  have hcl := cutB_len ks k x
  have htl : (ks.take (k + 1)).length = k + 1 := by simp; omega
  have hdl : (ks.drop k).length = ks.length - k := by simp
  rintro fr G ⟨get, rfl, b50, b60, b9, b10, hk0, hk1, hk2, hk3, hk4, hn, hl50, hu50, hc50, hl60, hu60, hc60, hl9, hu9, hc9, hl10, hu10, hc10, he50_60, he50_9, he60_9, he50_10, he60_10, he9_10, g4, g5, g8, g51, g61, g9, g10⟩
  refine aa_slot (d := 4) (v := .pointer (some ⟨H.next + 1, 0, none⟩)) g4 ?_
  refine aa_slot (d := 5) (v := .pointer (some ⟨H.next + 2, 0, none⟩)) g5 ?_
  refine aa_slot (d := 8) (v := .int .i16 x) g8 ?_
  refine aa_slot (d := 51) (v := .agg #[.int .i16 x, .slice (some ⟨b50, 0, none⟩) (ks.take (k + 1)).length ((ks.take (k + 1)).length + 1)]) g51 ?_
  refine aa_slot (d := 61) (v := .agg #[.int .i16 (L - x), .slice (some ⟨b60, 0, none⟩) (ks.drop k).length ((ks.drop k).length + 1)]) g61 ?_
  refine aa_slot (d := 9) (v := .pointer (some ⟨b9, 0, none⟩)) g9 ?_
  refine aa_slot (d := 10) (v := .pointer (some ⟨b10, 0, none⟩)) g10 ?_
  refine aax1 (i := 20) (by kernel_rfl) ?_
  · exact aa_oL (listed' := q9_l1) rfl rfl rfl rfl (by kernel_rfl) ((ao_storeL Try.sizeOf27 (by rfl) (by rfl) (by exact HLp) (by exact RFp) (by exact RFp) (by exact RFp)).to (SetR.eq (by exact SRp))) (q9_st_1 hkl hcc hlen hL hv h1 h2 hx hp hfin _ _ ⟨_, rfl, b50, b60, b9, b10, hk0.set (by omega) _, (blk_set_ne (by omega)).trans hk1, (blk_set_ne (by omega)).trans hk2, (blk_set_ne (by omega)).trans hk3, (blk_set_ne (by omega)).trans hk4, hn, hl50, hu50, (blk_set_ne he50_9).trans hc50, hl60, hu60, (blk_set_ne he60_9).trans hc60, hl9, hu9, blk_set_same hc9, hl10, hu10, (blk_set_ne (Ne.symm he9_10)).trans hc10, he50_60, he50_9, he60_9, he50_10, he60_10, he9_10, rfl, rfl, rfl, rfl, rfl, rfl⟩)
set_option maxHeartbeats 4000000 in
theorem q9_st_3 {L : Int} {ks : List Int} {lb c' k : Nat} {x : Int} {H : AHeap} {Q : Exit → AFr → AHeap → Prop} (hkl : H.blk lb = some (.cells (fl i16 ks) 1)) (hcc : ks.length ≤ c') (hlen : ks.length ≤ 4194304) (hL : -32768 ≤ L ∧ L ≤ 32767) (hv : okRope L ks) (h1 : 0 < k) (h2 : k + 1 < ks.length) (hx : ks[k]? = some x) (hp : ∀ c fr G, ¬ Q (.panic c) fr G) (hfin : ∀ fr G, q9_J0 L ks lb c' k x H fr G → Q .normal fr G) : ∀ fr G, q9_J3 L ks lb c' k x H fr G → AA Try.prog ops_q9 Q 3 q9_l3 fr G := by
  have hlt0 := AHeap.lt hkl
  have ⟨v1, v2, v3, v4, v5, v6, v7⟩ := hv
  have bx := hv.bnd hx
  have hcl := cutB_len ks k x
  have htl : (ks.take (k + 1)).length = k + 1 := by simp; omega
  have hdl : (ks.drop k).length = ks.length - k := by simp
  rintro fr G ⟨get, rfl, b50, b60, b9, hk0, hk1, hk2, hk3, hk4, hn, hl50, hu50, hc50, hl60, hu60, hc60, hl9, hu9, hc9, he50_60, he50_9, he60_9, g4, g5, g8, g51, g61, g9⟩
  refine aa_slot (d := 4) (v := .pointer (some ⟨H.next + 1, 0, none⟩)) g4 ?_
  refine aa_slot (d := 5) (v := .pointer (some ⟨H.next + 2, 0, none⟩)) g5 ?_
  refine aa_slot (d := 8) (v := .int .i16 x) g8 ?_
  refine aa_slot (d := 51) (v := .agg #[.int .i16 x, .slice (some ⟨b50, 0, none⟩) (ks.take (k + 1)).length ((ks.take (k + 1)).length + 1)]) g51 ?_
  refine aa_slot (d := 61) (v := .agg #[.int .i16 (L - x), .slice (some ⟨b60, 0, none⟩) (ks.drop k).length ((ks.drop k).length + 1)]) g61 ?_
  refine aa_slot (d := 9) (v := .pointer (some ⟨b9, 0, none⟩)) g9 ?_
  refine aax1 (i := 19) (by kernel_rfl) ?_
  · exact aa_oL (listed' := q9_l2) rfl rfl rfl rfl (by kernel_rfl) (ao_alloca (zv27) (by rfl)) (q9_st_2 hkl hcc hlen hL hv h1 h2 hx hp hfin _ _ ⟨_, rfl, b50, b60, b9, G.next, hk0.push (by omega) _, blk_push_old hk1, blk_push_old hk2, blk_push_old hk3, blk_push_old hk4, Nat.le_succ_of_le hn, hl50, Nat.lt_succ_of_lt hu50, blk_push_old hc50, hl60, Nat.lt_succ_of_lt hu60, blk_push_old hc60, hl9, Nat.lt_succ_of_lt hu9, blk_push_old hc9, hn, Nat.lt_succ_self _, blk_push_new _ _, he50_60, he50_9, he60_9, Nat.ne_of_lt hu50, Nat.ne_of_lt hu60, Nat.ne_of_lt hu9, rfl, rfl, rfl, rfl, rfl, rfl, rfl⟩)
set_option maxHeartbeats 4000000 in
theorem q9_st_4 {L : Int} {ks : List Int} {lb c' k : Nat} {x : Int} {H : AHeap} {Q : Exit → AFr → AHeap → Prop} (hkl : H.blk lb = some (.cells (fl i16 ks) 1)) (hcc : ks.length ≤ c') (hlen : ks.length ≤ 4194304) (hL : -32768 ≤ L ∧ L ≤ 32767) (hv : okRope L ks) (h1 : 0 < k) (h2 : k + 1 < ks.length) (hx : ks[k]? = some x) (hp : ∀ c fr G, ¬ Q (.panic c) fr G) (hfin : ∀ fr G, q9_J0 L ks lb c' k x H fr G → Q .normal fr G) : ∀ fr G, q9_J4 L ks lb c' k x H fr G → AA Try.prog ops_q9 Q 3 q9_l4 fr G := by
  have hlt0 := AHeap.lt hkl
  have ⟨v1, v2, v3, v4, v5, v6, v7⟩ := hv
  have bx := hv.bnd hx
  have hcl := cutB_len ks k x
  have htl : (ks.take (k + 1)).length = k + 1 := by simp; omega
  have hdl : (ks.drop k).length = ks.length - k := by simp
  rintro fr G ⟨get, rfl, b50, b60, b10, hk0, hk1, hk2, hk3, hk4, hn, hl50, hu50, hc50, hl60, hu60, hc60, hl10, hu10, hc10, he50_60, he50_10, he60_10, g4, g5, g8, g51, g61, g10⟩
  refine aa_slot (d := 4) (v := .pointer (some ⟨H.next + 1, 0, none⟩)) g4 ?_
  refine aa_slot (d := 5) (v := .pointer (some ⟨H.next + 2, 0, none⟩)) g5 ?_
  refine aa_slot (d := 8) (v := .int .i16 x) g8 ?_
  refine aa_slot (d := 51) (v := .agg #[.int .i16 x, .slice (some ⟨b50, 0, none⟩) (ks.take (k + 1)).length ((ks.take (k + 1)).length + 1)]) g51 ?_
  refine aa_slot (d := 61) (v := .agg #[.int .i16 (L - x), .slice (some ⟨b60, 0, none⟩) (ks.drop k).length ((ks.drop k).length + 1)]) g61 ?_
  refine aa_slot (d := 10) (v := .pointer (some ⟨b10, 0, none⟩)) g10 ?_
  refine aax1 (i := 18) (by kernel_rfl) ?_
  · exact aa_oL (listed' := q9_l2) rfl rfl rfl rfl (by kernel_rfl) (ao_alloca (zv27) (by rfl)) (q9_st_2 hkl hcc hlen hL hv h1 h2 hx hp hfin _ _ ⟨_, rfl, b50, b60, G.next, b10, hk0.push (by omega) _, blk_push_old hk1, blk_push_old hk2, blk_push_old hk3, blk_push_old hk4, Nat.le_succ_of_le hn, hl50, Nat.lt_succ_of_lt hu50, blk_push_old hc50, hl60, Nat.lt_succ_of_lt hu60, blk_push_old hc60, hn, Nat.lt_succ_self _, blk_push_new _ _, hl10, Nat.lt_succ_of_lt hu10, blk_push_old hc10, he50_60, Nat.ne_of_lt hu50, Nat.ne_of_lt hu60, he50_10, he60_10, (Nat.ne_of_gt hu10), rfl, rfl, rfl, rfl, rfl, rfl, rfl⟩)
set_option maxHeartbeats 4000000 in
theorem q9_st_5 {L : Int} {ks : List Int} {lb c' k : Nat} {x : Int} {H : AHeap} {Q : Exit → AFr → AHeap → Prop} (hkl : H.blk lb = some (.cells (fl i16 ks) 1)) (hcc : ks.length ≤ c') (hlen : ks.length ≤ 4194304) (hL : -32768 ≤ L ∧ L ≤ 32767) (hv : okRope L ks) (h1 : 0 < k) (h2 : k + 1 < ks.length) (hx : ks[k]? = some x) (hp : ∀ c fr G, ¬ Q (.panic c) fr G) (hfin : ∀ fr G, q9_J0 L ks lb c' k x H fr G → Q .normal fr G) : ∀ fr G, q9_J5 L ks lb c' k x H fr G → AA Try.prog ops_q9 Q 4 q9_l5 fr G := by
  have hlt0 := AHeap.lt hkl
  have ⟨v1, v2, v3, v4, v5, v6, v7⟩ := hv
  have bx := hv.bnd hx
  have hcl := cutB_len ks k x
  have htl : (ks.take (k + 1)).length = k + 1 := by simp; omega
  have hdl : (ks.drop k).length = ks.length - k := by simp
  rintro fr G ⟨get, rfl, b50, b60, hk0, hk1, hk2, hk3, hk4, hn, hl50, hu50, hc50, hl60, hu60, hc60, he50_60, g4, g5, g8, g51, g61⟩
  refine aa_slot (d := 4) (v := .pointer (some ⟨H.next + 1, 0, none⟩)) g4 ?_
  refine aa_slot (d := 5) (v := .pointer (some ⟨H.next + 2, 0, none⟩)) g5 ?_
  refine aa_slot (d := 8) (v := .int .i16 x) g8 ?_
  refine aa_slot (d := 51) (v := .agg #[.int .i16 x, .slice (some ⟨b50, 0, none⟩) (ks.take (k + 1)).length ((ks.take (k + 1)).length + 1)]) g51 ?_
  refine aa_slot (d := 61) (v := .agg #[.int .i16 (L - x), .slice (some ⟨b60, 0, none⟩) (ks.drop k).length ((ks.drop k).length + 1)]) g61 ?_
  refine aax2 (i := 18) (j := 19) (by kernel_rfl) ?_ ?_
  · exact aa_oL (listed' := q9_l3) rfl rfl rfl rfl (by kernel_rfl) (ao_alloca (zv27) (by rfl)) (q9_st_3 hkl hcc hlen hL hv h1 h2 hx hp hfin _ _ ⟨_, rfl, b50, b60, G.next, hk0.push (by omega) _, blk_push_old hk1, blk_push_old hk2, blk_push_old hk3, blk_push_old hk4, Nat.le_succ_of_le hn, hl50, Nat.lt_succ_of_lt hu50, blk_push_old hc50, hl60, Nat.lt_succ_of_lt hu60, blk_push_old hc60, hn, Nat.lt_succ_self _, blk_push_new _ _, he50_60, Nat.ne_of_lt hu50, Nat.ne_of_lt hu60, rfl, rfl, rfl, rfl, rfl, rfl⟩)
  · exact aa_oL (listed' := q9_l4) rfl rfl rfl rfl (by kernel_rfl) (ao_alloca (zv27) (by rfl)) (q9_st_4 hkl hcc hlen hL hv h1 h2 hx hp hfin _ _ ⟨_, rfl, b50, b60, G.next, hk0.push (by omega) _, blk_push_old hk1, blk_push_old hk2, blk_push_old hk3, blk_push_old hk4, Nat.le_succ_of_le hn, hl50, Nat.lt_succ_of_lt hu50, blk_push_old hc50, hl60, Nat.lt_succ_of_lt hu60, blk_push_old hc60, hn, Nat.lt_succ_self _, blk_push_new _ _, he50_60, Nat.ne_of_lt hu50, Nat.ne_of_lt hu60, rfl, rfl, rfl, rfl, rfl, rfl⟩)
set_option maxHeartbeats 4000000 in
theorem q9_st_6 {L : Int} {ks : List Int} {lb c' k : Nat} {x : Int} {H : AHeap} {Q : Exit → AFr → AHeap → Prop} (hkl : H.blk lb = some (.cells (fl i16 ks) 1)) (hcc : ks.length ≤ c') (hlen : ks.length ≤ 4194304) (hL : -32768 ≤ L ∧ L ≤ 32767) (hv : okRope L ks) (h1 : 0 < k) (h2 : k + 1 < ks.length) (hx : ks[k]? = some x) (hp : ∀ c fr G, ¬ Q (.panic c) fr G) (hfin : ∀ fr G, q9_J0 L ks lb c' k x H fr G → Q .normal fr G) : ∀ fr G, q9_J6 L ks lb c' k x H fr G → AA Try.prog ops_q9 Q 4 q9_l6 fr G := by
  have hlt0 := AHeap.lt hkl
  have ⟨v1, v2, v3, v4, v5, v6, v7⟩ := hv
  have bx := hv.bnd hx
  have hcl := cutB_len ks k x
  have htl : (ks.take (k + 1)).length = k + 1 := by simp; omega
  have hdl : (ks.drop k).length = ks.length - k := by simp
  rintro fr G ⟨get, rfl, b50, b9, b10, hk0, hk1, hk2, hk3, hk4, hn, hl50, hu50, hc50, hl9, hu9, hc9, hl10, hu10, hc10, he50_9, he50_10, he9_10, g4, g5, g8, g51, g55, g59, g9, g10⟩
  refine aa_slot (d := 4) (v := .pointer (some ⟨H.next + 1, 0, none⟩)) g4 ?_
  refine aa_slot (d := 5) (v := .pointer (some ⟨H.next + 2, 0, none⟩)) g5 ?_
  refine aa_slot (d := 8) (v := .int .i16 x) g8 ?_
  refine aa_slot (d := 51) (v := .agg #[.int .i16 x, .slice (some ⟨b50, 0, none⟩) (ks.take (k + 1)).length ((ks.take (k + 1)).length + 1)]) g51 ?_
  refine aa_slot (d := 55) (v := .int .i16 (L - x)) g55 ?_
  refine aa_slot (d := 59) (v := .slice (some ⟨lb, 0 + k * 1, none⟩) (ks.length - k) (ks.length - k + 1)) g59 ?_
  refine aa_slot (d := 9) (v := .pointer (some ⟨b9, 0, none⟩)) g9 ?_
  refine aa_slot (d := 10) (v := .pointer (some ⟨b10, 0, none⟩)) g10 ?_
  refine aax1 (i := 16) (by kernel_rfl) ?_
  · exact aa_oL (listed' := q9_l7) rfl rfl rfl rfl (by kernel_rfl) (ao_calld (cloneI16n_c (l := ks.drop k) (n := ks.length - k) (Sl.part (i := k) i16_len (by exact HLp) rfl rfl (by omega) (List.take_of_length_le (by omega)) (by omega)) (by omega) (by omega)) Try.call26 rfl rfl) (aa_take (i := 17) (listed' := q9_l2) rfl (by kernel_rfl) (by kernel_rfl) (by kernel_rfl) rfl rfl rfl (by kernel_rfl) hp (apm_build (A := #[.int .i16 (L - x), .slice (some ⟨G.next, 0, none⟩) (ks.drop k).length ((ks.drop k).length + 1)]) Try.zeroValue27 (by rfl) Try.underlying27 (by kernel_rfl) (by rfl) (by first | rfl | kernel_rfl)) (q9_st_2 hkl hcc hlen hL hv h1 h2 hx hp hfin _ _ ⟨_, rfl, b50, G.next, b9, b10, hk0.push (by omega) _, blk_push_old hk1, blk_push_old hk2, blk_push_old hk3, blk_push_old hk4, Nat.le_succ_of_le hn, hl50, Nat.lt_succ_of_lt hu50, blk_push_old hc50, hn, Nat.lt_succ_self _, blk_push_new _ _, hl9, Nat.lt_succ_of_lt hu9, blk_push_old hc9, hl10, Nat.lt_succ_of_lt hu10, blk_push_old hc10, Nat.ne_of_lt hu50, he50_9, (Nat.ne_of_gt hu9), he50_10, (Nat.ne_of_gt hu10), he9_10, rfl, rfl, rfl, rfl, rfl, rfl, rfl⟩))
set_option maxHeartbeats 4000000 in
theorem q9_st_7 {L : Int} {ks : List Int} {lb c' k : Nat} {x : Int} {H : AHeap} {Q : Exit → AFr → AHeap → Prop} (hkl : H.blk lb = some (.cells (fl i16 ks) 1)) (hcc : ks.length ≤ c') (hlen : ks.length ≤ 4194304) (hL : -32768 ≤ L ∧ L ≤ 32767) (hv : okRope L ks) (h1 : 0 < k) (h2 : k + 1 < ks.length) (hx : ks[k]? = some x) (hp : ∀ c fr G, ¬ Q (.panic c) fr G) (hfin : ∀ fr G, q9_J0 L ks lb c' k x H fr G → Q .normal fr G) : ∀ fr G, q9_J7 L ks lb c' k x H fr G → AA Try.prog ops_q9 Q 4 q9_l8 fr G := by
  have hlt0 := AHeap.lt hkl
  have ⟨v1, v2, v3, v4, v5, v6, v7⟩ := hv
  have bx := hv.bnd hx
  have hcl := cutB_len ks k x
  have htl : (ks.take (k + 1)).length = k + 1 := by simp; omega
  have hdl : (ks.drop k).length = ks.length - k := by simp
  rintro fr G ⟨get, rfl, b50, b60, b9, b10, hk0, hk1, hk2, hk3, hk4, hn, hl50, hu50, hc50, hl60, hu60, hc60, hl9, hu9, hc9, hl10, hu10, hc10, he50_60, he50_9, he60_9, he50_10, he60_10, he9_10, g4, g5, g8, g52, g54, g60, g9, g10⟩
  refine aa_slot (d := 4) (v := .pointer (some ⟨H.next + 1, 0, none⟩)) g4 ?_
  refine aa_slot (d := 5) (v := .pointer (some ⟨H.next + 2, 0, none⟩)) g5 ?_
  refine aa_slot (d := 8) (v := .int .i16 x) g8 ?_
  refine aa_slot (d := 52) (v := .pointer (some ⟨H.next, 0 + 0, none⟩)) g52 ?_
  refine aa_slot (d := 54) (v := .int .i16 x) g54 ?_
  refine aa_slot (d := 60) (v := .slice (some ⟨b60, 0, none⟩) (ks.drop k).length ((ks.drop k).length + 1)) g60 ?_
  refine aa_slot (d := 9) (v := .pointer (some ⟨b9, 0, none⟩)) g9 ?_
  refine aa_slot (d := 10) (v := .pointer (some ⟨b10, 0, none⟩)) g10 ?_
  refine aax1 (i := 9) (by kernel_rfl) ?_
  · exact aa_oL (listed' := q9_l10) rfl rfl rfl rfl (by kernel_rfl) (ao_load (v := .int _ _) Try.isAgg22 (by rfl) (by exact HLp) (by rfl) (by exact RFp)) (aa_take (i := 11) (listed' := q9_l9) rfl (by kernel_rfl) (by kernel_rfl) (by kernel_rfl) rfl rfl rfl (by kernel_rfl) hp ((apm_sub rfl rfl).val (nw_i16 BDp BDp)) (aa_take (i := 17) (listed' := q9_l1) rfl (by kernel_rfl) (by kernel_rfl) (by kernel_rfl) rfl rfl rfl (by kernel_rfl) hp (apm_build (A := #[.int .i16 (L - x), .slice (some ⟨b60, 0, none⟩) (ks.drop k).length ((ks.drop k).length + 1)]) Try.zeroValue27 (by rfl) Try.underlying27 (by kernel_rfl) (by rfl) (by first | rfl | kernel_rfl)) (q9_st_1 hkl hcc hlen hL hv h1 h2 hx hp hfin _ _ ⟨_, rfl, b50, b60, b9, b10, hk0, hk1, hk2, hk3, hk4, hn, hl50, hu50, hc50, hl60, hu60, hc60, hl9, hu9, hc9, hl10, hu10, hc10, he50_60, he50_9, he60_9, he50_10, he60_10, he9_10, rfl, rfl, rfl, rfl, rfl, rfl⟩)))
set_option maxHeartbeats 4000000 in
theorem q9_st_8 {L : Int} {ks : List Int} {lb c' k : Nat} {x : Int} {H : AHeap} {Q : Exit → AFr → AHeap → Prop} (hkl : H.blk lb = some (.cells (fl i16 ks) 1)) (hcc : ks.length ≤ c') (hlen : ks.length ≤ 4194304) (hL : -32768 ≤ L ∧ L ≤ 32767) (hv : okRope L ks) (h1 : 0 < k) (h2 : k + 1 < ks.length) (hx : ks[k]? = some x) (hp : ∀ c fr G, ¬ Q (.panic c) fr G) (hfin : ∀ fr G, q9_J0 L ks lb c' k x H fr G → Q .normal fr G) : ∀ fr G, q9_J8 L ks lb c' k x H fr G → AA Try.prog ops_q9 Q 5 q9_l11 fr G := by
  have hlt0 := AHeap.lt hkl
  have ⟨v1, v2, v3, v4, v5, v6, v7⟩ := hv
  have bx := hv.bnd hx
  have hcl := cutB_len ks k x
  have htl : (ks.take (k + 1)).length = k + 1 := by simp; omega
  have hdl : (ks.drop k).length = ks.length - k := by simp
  rintro fr G ⟨get, rfl, b50, b9, hk0, hk1, hk2, hk3, hk4, hn, hl50, hu50, hc50, hl9, hu9, hc9, he50_9, g4, g5, g8, g51, g55, g59, g9⟩
  refine aa_slot (d := 4) (v := .pointer (some ⟨H.next + 1, 0, none⟩)) g4 ?_
  refine aa_slot (d := 5) (v := .pointer (some ⟨H.next + 2, 0, none⟩)) g5 ?_
  refine aa_slot (d := 8) (v := .int .i16 x) g8 ?_
  refine aa_slot (d := 51) (v := .agg #[.int .i16 x, .slice (some ⟨b50, 0, none⟩) (ks.take (k + 1)).length ((ks.take (k + 1)).length + 1)]) g51 ?_
  refine aa_slot (d := 55) (v := .int .i16 (L - x)) g55 ?_
  refine aa_slot (d := 59) (v := .slice (some ⟨lb, 0 + k * 1, none⟩) (ks.length - k) (ks.length - k + 1)) g59 ?_
  refine aa_slot (d := 9) (v := .pointer (some ⟨b9, 0, none⟩)) g9 ?_
  refine aax2 (i := 16) (j := 19) (by kernel_rfl) ?_ ?_
  · exact aa_oL (listed' := q9_l12) rfl rfl rfl rfl (by kernel_rfl) (ao_calld (cloneI16n_c (l := ks.drop k) (n := ks.length - k) (Sl.part (i := k) i16_len (by exact HLp) rfl rfl (by omega) (List.take_of_length_le (by omega)) (by omega)) (by omega) (by omega)) Try.call26 rfl rfl) (aa_take (i := 17) (listed' := q9_l3) rfl (by kernel_rfl) (by kernel_rfl) (by kernel_rfl) rfl rfl rfl (by kernel_rfl) hp (apm_build (A := #[.int .i16 (L - x), .slice (some ⟨G.next, 0, none⟩) (ks.drop k).length ((ks.drop k).length + 1)]) Try.zeroValue27 (by rfl) Try.underlying27 (by kernel_rfl) (by rfl) (by first | rfl | kernel_rfl)) (q9_st_3 hkl hcc hlen hL hv h1 h2 hx hp hfin _ _ ⟨_, rfl, b50, G.next, b9, hk0.push (by omega) _, blk_push_old hk1, blk_push_old hk2, blk_push_old hk3, blk_push_old hk4, Nat.le_succ_of_le hn, hl50, Nat.lt_succ_of_lt hu50, blk_push_old hc50, hn, Nat.lt_succ_self _, blk_push_new _ _, hl9, Nat.lt_succ_of_lt hu9, blk_push_old hc9, Nat.ne_of_lt hu50, he50_9, (Nat.ne_of_gt hu9), rfl, rfl, rfl, rfl, rfl, rfl⟩))
  · exact aa_oL (listed' := q9_l6) rfl rfl rfl rfl (by kernel_rfl) (ao_alloca (zv27) (by rfl)) (q9_st_6 hkl hcc hlen hL hv h1 h2 hx hp hfin _ _ ⟨_, rfl, b50, b9, G.next, hk0.push (by omega) _, blk_push_old hk1, blk_push_old hk2, blk_push_old hk3, blk_push_old hk4, Nat.le_succ_of_le hn, hl50, Nat.lt_succ_of_lt hu50, blk_push_old hc50, hl9, Nat.lt_succ_of_lt hu9, blk_push_old hc9, hn, Nat.lt_succ_self _, blk_push_new _ _, he50_9, Nat.ne_of_lt hu50, Nat.ne_of_lt hu9, rfl, rfl, rfl, rfl, rfl, rfl, rfl, rfl⟩)
set_option maxHeartbeats 4000000 in
theorem q9_st_9 {L : Int} {ks : List Int} {lb c' k : Nat} {x : Int} {H : AHeap} {Q : Exit → AFr → AHeap → Prop} (hkl : H.blk lb = some (.cells (fl i16 ks) 1)) (hcc : ks.length ≤ c') (hlen : ks.length ≤ 4194304) (hL : -32768 ≤ L ∧ L ≤ 32767) (hv : okRope L ks) (h1 : 0 < k) (h2 : k + 1 < ks.length) (hx : ks[k]? = some x) (hp : ∀ c fr G, ¬ Q (.panic c) fr G) (hfin : ∀ fr G, q9_J0 L ks lb c' k x H fr G → Q .normal fr G) : ∀ fr G, q9_J9 L ks lb c' k x H fr G → AA Try.prog ops_q9 Q 5 q9_l13 fr G := by
  have hlt0 := AHeap.lt hkl
  have ⟨v1, v2, v3, v4, v5, v6, v7⟩ := hv
  have bx := hv.bnd hx
  have hcl := cutB_len ks k x
  have htl : (ks.take (k + 1)).length = k + 1 := by simp; omega
  have hdl : (ks.drop k).length = ks.length - k := by simp
  rintro fr G ⟨get, rfl, b50, b10, hk0, hk1, hk2, hk3, hk4, hn, hl50, hu50, hc50, hl10, hu10, hc10, he50_10, g4, g5, g8, g51, g55, g59, g10⟩
  refine aa_slot (d := 4) (v := .pointer (some ⟨H.next + 1, 0, none⟩)) g4 ?_
  refine aa_slot (d := 5) (v := .pointer (some ⟨H.next + 2, 0, none⟩)) g5 ?_
  refine aa_slot (d := 8) (v := .int .i16 x) g8 ?_
  refine aa_slot (d := 51) (v := .agg #[.int .i16 x, .slice (some ⟨b50, 0, none⟩) (ks.take (k + 1)).length ((ks.take (k + 1)).length + 1)]) g51 ?_
  refine aa_slot (d := 55) (v := .int .i16 (L - x)) g55 ?_
  refine aa_slot (d := 59) (v := .slice (some ⟨lb, 0 + k * 1, none⟩) (ks.length - k) (ks.length - k + 1)) g59 ?_
  refine aa_slot (d := 10) (v := .pointer (some ⟨b10, 0, none⟩)) g10 ?_
  refine aax2 (i := 16) (j := 18) (by kernel_rfl) ?_ ?_
  · exact aa_oL (listed' := q9_l14) rfl rfl rfl rfl (by kernel_rfl) (ao_calld (cloneI16n_c (l := ks.drop k) (n := ks.length - k) (Sl.part (i := k) i16_len (by exact HLp) rfl rfl (by omega) (List.take_of_length_le (by omega)) (by omega)) (by omega) (by omega)) Try.call26 rfl rfl) (aa_take (i := 17) (listed' := q9_l4) rfl (by kernel_rfl) (by kernel_rfl) (by kernel_rfl) rfl rfl rfl (by kernel_rfl) hp (apm_build (A := #[.int .i16 (L - x), .slice (some ⟨G.next, 0, none⟩) (ks.drop k).length ((ks.drop k).length + 1)]) Try.zeroValue27 (by rfl) Try.underlying27 (by kernel_rfl) (by rfl) (by first | rfl | kernel_rfl)) (q9_st_4 hkl hcc hlen hL hv h1 h2 hx hp hfin _ _ ⟨_, rfl, b50, G.next, b10, hk0.push (by omega) _, blk_push_old hk1, blk_push_old hk2, blk_push_old hk3, blk_push_old hk4, Nat.le_succ_of_le hn, hl50, Nat.lt_succ_of_lt hu50, blk_push_old hc50, hn, Nat.lt_succ_self _, blk_push_new _ _, hl10, Nat.lt_succ_of_lt hu10, blk_push_old hc10, Nat.ne_of_lt hu50, he50_10, (Nat.ne_of_gt hu10), rfl, rfl, rfl, rfl, rfl, rfl⟩))
  · exact aa_oL (listed' := q9_l6) rfl rfl rfl rfl (by kernel_rfl) (ao_alloca (zv27) (by rfl)) (q9_st_6 hkl hcc hlen hL hv h1 h2 hx hp hfin _ _ ⟨_, rfl, b50, G.next, b10, hk0.push (by omega) _, blk_push_old hk1, blk_push_old hk2, blk_push_old hk3, blk_push_old hk4, Nat.le_succ_of_le hn, hl50, Nat.lt_succ_of_lt hu50, blk_push_old hc50, hn, Nat.lt_succ_self _, blk_push_new _ _, hl10, Nat.lt_succ_of_lt hu10, blk_push_old hc10, Nat.ne_of_lt hu50, he50_10, (Nat.ne_of_gt hu10), rfl, rfl, rfl, rfl, rfl, rfl, rfl, rfl⟩)
set_option maxHeartbeats 4000000 in
theorem q9_st_10 {L : Int} {ks : List Int} {lb c' k : Nat} {x : Int} {H : AHeap} {Q : Exit → AFr → AHeap → Prop} (hkl : H.blk lb = some (.cells (fl i16 ks) 1)) (hcc : ks.length ≤ c') (hlen : ks.length ≤ 4194304) (hL : -32768 ≤ L ∧ L ≤ 32767) (hv : okRope L ks) (h1 : 0 < k) (h2 : k + 1 < ks.length) (hx : ks[k]? = some x) (hp : ∀ c fr G, ¬ Q (.panic c) fr G) (hfin : ∀ fr G, q9_J0 L ks lb c' k x H fr G → Q .normal fr G) : ∀ fr G, q9_J10 L ks lb c' k x H fr G → AA Try.prog ops_q9 Q 5 q9_l15 fr G := by
  have hlt0 := AHeap.lt hkl
  have ⟨v1, v2, v3, v4, v5, v6, v7⟩ := hv
  have bx := hv.bnd hx
  have hcl := cutB_len ks k x
  have htl : (ks.take (k + 1)).length = k + 1 := by simp; omega
  have hdl : (ks.drop k).length = ks.length - k := by simp
  rintro fr G ⟨get, rfl, b50, b60, b9, b10, hk0, hk1, hk2, hk3, hk4, hn, hl50, hu50, hc50, hl60, hu60, hc60, hl9, hu9, hc9, hl10, hu10, hc10, he50_60, he50_9, he60_9, he50_10, he60_10, he9_10, g4, g5, g8, g51, g52, g54, g60, g9, g10⟩
  refine aa_slot (d := 4) (v := .pointer (some ⟨H.next + 1, 0, none⟩)) g4 ?_
  refine aa_slot (d := 5) (v := .pointer (some ⟨H.next + 2, 0, none⟩)) g5 ?_
  refine aa_slot (d := 8) (v := .int .i16 x) g8 ?_
  refine aa_slot (d := 51) (v := .agg #[.int .i16 x, .slice (some ⟨b50, 0, none⟩) (ks.take (k + 1)).length ((ks.take (k + 1)).length + 1)]) g51 ?_
  refine aa_slot (d := 52) (v := .pointer (some ⟨H.next, 0 + 0, none⟩)) g52 ?_
  refine aa_slot (d := 54) (v := .int .i16 x) g54 ?_
  refine aa_slot (d := 60) (v := .slice (some ⟨b60, 0, none⟩) (ks.drop k).length ((ks.drop k).length + 1)) g60 ?_
  refine aa_slot (d := 9) (v := .pointer (some ⟨b9, 0, none⟩)) g9 ?_
  refine aa_slot (d := 10) (v := .pointer (some ⟨b10, 0, none⟩)) g10 ?_
  refine aax2 (i := 9) (j := 20) (by kernel_rfl) ?_ ?_
  · exact aa_oL (listed' := q9_l16) rfl rfl rfl rfl (by kernel_rfl) (ao_load (v := .int _ _) Try.isAgg22 (by rfl) (by exact HLp) (by rfl) (by exact RFp)) (aa_take (i := 11) (listed' := q9_l7) rfl (by kernel_rfl) (by kernel_rfl) (by kernel_rfl) rfl rfl rfl (by kernel_rfl) hp ((apm_sub rfl rfl).val (nw_i16 BDp BDp)) (aa_take (i := 17) (listed' := q9_l2) rfl (by kernel_rfl) (by kernel_rfl) (by kernel_rfl) rfl rfl rfl (by kernel_rfl) hp (apm_build (A := #[.int .i16 (L - x), .slice (some ⟨b60, 0, none⟩) (ks.drop k).length ((ks.drop k).length + 1)]) Try.zeroValue27 (by rfl) Try.underlying27 (by kernel_rfl) (by rfl) (by first | rfl | kernel_rfl)) (q9_st_2 hkl hcc hlen hL hv h1 h2 hx hp hfin _ _ ⟨_, rfl, b50, b60, b9, b10, hk0, hk1, hk2, hk3, hk4, hn, hl50, hu50, hc50, hl60, hu60, hc60, hl9, hu9, hc9, hl10, hu10, hc10, he50_60, he50_9, he60_9, he50_10, he60_10, he9_10, rfl, rfl, rfl, rfl, rfl, rfl, rfl⟩)))
  · exact aa_oL (listed' := q9_l8) rfl rfl rfl rfl (by kernel_rfl) ((ao_storeL Try.sizeOf27 (by rfl) (by rfl) (by exact HLp) (by exact RFp) (by exact RFp) (by exact RFp)).to (SetR.eq (by exact SRp))) (q9_st_7 hkl hcc hlen hL hv h1 h2 hx hp hfin _ _ ⟨_, rfl, b50, b60, b9, b10, hk0.set (by omega) _, (blk_set_ne (by omega)).trans hk1, (blk_set_ne (by omega)).trans hk2, (blk_set_ne (by omega)).trans hk3, (blk_set_ne (by omega)).trans hk4, hn, hl50, hu50, (blk_set_ne he50_9).trans hc50, hl60, hu60, (blk_set_ne he60_9).trans hc60, hl9, hu9, blk_set_same hc9, hl10, hu10, (blk_set_ne (Ne.symm he9_10)).trans hc10, he50_60, he50_9, he60_9, he50_10, he60_10, he9_10, rfl, rfl, rfl, rfl, rfl, rfl, rfl, rfl⟩)
set_option maxHeartbeats 4000000 in
theorem q9_st_11 {L : Int} {ks : List Int} {lb c' k : Nat} {x : Int} {H : AHeap} {Q : Exit → AFr → AHeap → Prop} (hkl : H.blk lb = some (.cells (fl i16 ks) 1)) (hcc : ks.length ≤ c') (hlen : ks.length ≤ 4194304) (hL : -32768 ≤ L ∧ L ≤ 32767) (hv : okRope L ks) (h1 : 0 < k) (h2 : k + 1 < ks.length) (hx : ks[k]? = some x) (hp : ∀ c fr G, ¬ Q (.panic c) fr G) (hfin : ∀ fr G, q9_J0 L ks lb c' k x H fr G → Q .normal fr G) : ∀ fr G, q9_J11 L ks lb c' k x H fr G → AA Try.prog ops_q9 Q 6 q9_l17 fr G := by
  have hlt0 := AHeap.lt hkl
  have ⟨v1, v2, v3, v4, v5, v6, v7⟩ := hv
  have bx := hv.bnd hx
  have hcl := cutB_len ks k x
  have htl : (ks.take (k + 1)).length = k + 1 := by simp; omega
  have hdl : (ks.drop k).length = ks.length - k := by simp
  rintro fr G ⟨get, rfl, b50, hk0, hk1, hk2, hk3, hk4, hn, hl50, hu50, hc50, g4, g5, g8, g51, g55, g59⟩
  refine aa_slot (d := 4) (v := .pointer (some ⟨H.next + 1, 0, none⟩)) g4 ?_
  refine aa_slot (d := 5) (v := .pointer (some ⟨H.next + 2, 0, none⟩)) g5 ?_
  refine aa_slot (d := 8) (v := .int .i16 x) g8 ?_
  refine aa_slot (d := 51) (v := .agg #[.int .i16 x, .slice (some ⟨b50, 0, none⟩) (ks.take (k + 1)).length ((ks.take (k + 1)).length + 1)]) g51 ?_
  refine aa_slot (d := 55) (v := .int .i16 (L - x)) g55 ?_
  refine aa_slot (d := 59) (v := .slice (some ⟨lb, 0 + k * 1, none⟩) (ks.length - k) (ks.length - k + 1)) g59 ?_
  refine aax3 (i := 16) (j := 18) (l := 19) (by kernel_rfl) ?_ ?_ ?_
  · exact aa_oL (listed' := q9_l18) rfl rfl rfl rfl (by kernel_rfl) (ao_calld (cloneI16n_c (l := ks.drop k) (n := ks.length - k) (Sl.part (i := k) i16_len (by exact HLp) rfl rfl (by omega) (List.take_of_length_le (by omega)) (by omega)) (by omega) (by omega)) Try.call26 rfl rfl) (aa_take (i := 17) (listed' := q9_l5) rfl (by kernel_rfl) (by kernel_rfl) (by kernel_rfl) rfl rfl rfl (by kernel_rfl) hp (apm_build (A := #[.int .i16 (L - x), .slice (some ⟨G.next, 0, none⟩) (ks.drop k).length ((ks.drop k).length + 1)]) Try.zeroValue27 (by rfl) Try.underlying27 (by kernel_rfl) (by rfl) (by first | rfl | kernel_rfl)) (q9_st_5 hkl hcc hlen hL hv h1 h2 hx hp hfin _ _ ⟨_, rfl, b50, G.next, hk0.push (by omega) _, blk_push_old hk1, blk_push_old hk2, blk_push_old hk3, blk_push_old hk4, Nat.le_succ_of_le hn, hl50, Nat.lt_succ_of_lt hu50, blk_push_old hc50, hn, Nat.lt_succ_self _, blk_push_new _ _, Nat.ne_of_lt hu50, rfl, rfl, rfl, rfl, rfl⟩))
  · exact aa_oL (listed' := q9_l11) rfl rfl rfl rfl (by kernel_rfl) (ao_alloca (zv27) (by rfl)) (q9_st_8 hkl hcc hlen hL hv h1 h2 hx hp hfin _ _ ⟨_, rfl, b50, G.next, hk0.push (by omega) _, blk_push_old hk1, blk_push_old hk2, blk_push_old hk3, blk_push_old hk4, Nat.le_succ_of_le hn, hl50, Nat.lt_succ_of_lt hu50, blk_push_old hc50, hn, Nat.lt_succ_self _, blk_push_new _ _, Nat.ne_of_lt hu50, rfl, rfl, rfl, rfl, rfl, rfl, rfl⟩)
  · exact aa_oL (listed' := q9_l13) rfl rfl rfl rfl (by kernel_rfl) (ao_alloca (zv27) (by rfl)) (q9_st_9 hkl hcc hlen hL hv h1 h2 hx hp hfin _ _ ⟨_, rfl, b50, G.next, hk0.push (by omega) _, blk_push_old hk1, blk_push_old hk2, blk_push_old hk3, blk_push_old hk4, Nat.le_succ_of_le hn, hl50, Nat.lt_succ_of_lt hu50, blk_push_old hc50, hn, Nat.lt_succ_self _, blk_push_new _ _, Nat.ne_of_lt hu50, rfl, rfl, rfl, rfl, rfl, rfl, rfl⟩)
set_option maxHeartbeats 4000000 in
theorem q9_st_12 {L : Int} {ks : List Int} {lb c' k : Nat} {x : Int} {H : AHeap} {Q : Exit → AFr → AHeap → Prop} (hkl : H.blk lb = some (.cells (fl i16 ks) 1)) (hcc : ks.length ≤ c') (hlen : ks.length ≤ 4194304) (hL : -32768 ≤ L ∧ L ≤ 32767) (hv : okRope L ks) (h1 : 0 < k) (h2 : k + 1 < ks.length) (hx : ks[k]? = some x) (hp : ∀ c fr G, ¬ Q (.panic c) fr G) (hfin : ∀ fr G, q9_J0 L ks lb c' k x H fr G → Q .normal fr G) : ∀ fr G, q9_J12 L ks lb c' k x H fr G → AA Try.prog ops_q9 Q 6 q9_l19 fr G := by
  have hlt0 := AHeap.lt hkl
  have ⟨v1, v2, v3, v4, v5, v6, v7⟩ := hv
  have bx := hv.bnd hx
  have hcl := cutB_len ks k x
  have htl : (ks.take (k + 1)).length = k + 1 := by simp; omega
  have hdl : (ks.drop k).length = ks.length - k := by simp
  rintro fr G ⟨get, rfl, b50, b9, b10, hk0, hk1, hk2, hk3, hk4, hn, hl50, hu50, hc50, hl9, hu9, hc9, hl10, hu10, hc10, he50_9, he50_10, he9_10, g4, g5, g8, g51, g55, g56, g58, g9, g10⟩
  refine aa_slot (d := 4) (v := .pointer (some ⟨H.next + 1, 0, none⟩)) g4 ?_
  refine aa_slot (d := 5) (v := .pointer (some ⟨H.next + 2, 0, none⟩)) g5 ?_
  refine aa_slot (d := 8) (v := .int .i16 x) g8 ?_
  refine aa_slot (d := 51) (v := .agg #[.int .i16 x, .slice (some ⟨b50, 0, none⟩) (ks.take (k + 1)).length ((ks.take (k + 1)).length + 1)]) g51 ?_
  refine aa_slot (d := 55) (v := .int .i16 (L - x)) g55 ?_
  refine aa_slot (d := 56) (v := .pointer (some ⟨H.next, 0 + 1, none⟩)) g56 ?_
  refine aa_slot (d := 58) (v := .int .i64 k) g58 ?_
  refine aa_slot (d := 9) (v := .pointer (some ⟨b9, 0, none⟩)) g9 ?_
  refine aa_slot (d := 10) (v := .pointer (some ⟨b10, 0, none⟩)) g10 ?_
  refine aax1 (i := 13) (by kernel_rfl) ?_
  · exact aa_oL (listed' := q9_l20) rfl rfl rfl rfl (by kernel_rfl) (ao_load (v := .slice _ _ _) Try.isAgg23 (by rfl) (by exact HLp) (by rfl) (by exact RFp)) (aa_take (i := 15) (listed' := q9_l6) rfl (by kernel_rfl) (by kernel_rfl) (by kernel_rfl) rfl rfl rfl (by kernel_rfl) hp (apm_sliceLo Try.underlying23 Try.sizeOf22 (by rfl) (by rfl) (by first | rfl | omega) (by exact HLp) (by rfl) (by exact IXp)) (q9_st_6 hkl hcc hlen hL hv h1 h2 hx hp hfin _ _ ⟨_, rfl, b50, b9, b10, hk0, hk1, hk2, hk3, hk4, hn, hl50, hu50, hc50, hl9, hu9, hc9, hl10, hu10, hc10, he50_9, he50_10, he9_10, rfl, rfl, rfl, rfl, rfl, rfl, rfl, rfl⟩))
set_option maxHeartbeats 4000000 in
theorem q9_st_13 {L : Int} {ks : List Int} {lb c' k : Nat} {x : Int} {H : AHeap} {Q : Exit → AFr → AHeap → Prop} (hkl : H.blk lb = some (.cells (fl i16 ks) 1)) (hcc : ks.length ≤ c') (hlen : ks.length ≤ 4194304) (hL : -32768 ≤ L ∧ L ≤ 32767) (hv : okRope L ks) (h1 : 0 < k) (h2 : k + 1 < ks.length) (hx : ks[k]? = some x) (hp : ∀ c fr G, ¬ Q (.panic c) fr G) (hfin : ∀ fr G, q9_J0 L ks lb c' k x H fr G → Q .normal fr G) : ∀ fr G, q9_J13 L ks lb c' k x H fr G → AA Try.prog ops_q9 Q 6 q9_l21 fr G := by
  have hlt0 := AHeap.lt hkl
  have ⟨v1, v2, v3, v4, v5, v6, v7⟩ := hv
  have bx := hv.bnd hx
  have hcl := cutB_len ks k x
  have htl : (ks.take (k + 1)).length = k + 1 := by simp; omega
  have hdl : (ks.drop k).length = ks.length - k := by simp
  rintro fr G ⟨get, rfl, b50, b60, b9, hk0, hk1, hk2, hk3, hk4, hn, hl50, hu50, hc50, hl60, hu60, hc60, hl9, hu9, hc9, he50_60, he50_9, he60_9, g4, g5, g8, g51, g52, g54, g60, g9⟩
  refine aa_slot (d := 4) (v := .pointer (some ⟨H.next + 1, 0, none⟩)) g4 ?_
  refine aa_slot (d := 5) (v := .pointer (some ⟨H.next + 2, 0, none⟩)) g5 ?_
  refine aa_slot (d := 8) (v := .int .i16 x) g8 ?_
  refine aa_slot (d := 51) (v := .agg #[.int .i16 x, .slice (some ⟨b50, 0, none⟩) (ks.take (k + 1)).length ((ks.take (k + 1)).length + 1)]) g51 ?_
  refine aa_slot (d := 52) (v := .pointer (some ⟨H.next, 0 + 0, none⟩)) g52 ?_
  refine aa_slot (d := 54) (v := .int .i16 x) g54 ?_
  refine aa_slot (d := 60) (v := .slice (some ⟨b60, 0, none⟩) (ks.drop k).length ((ks.drop k).length + 1)) g60 ?_
  refine aa_slot (d := 9) (v := .pointer (some ⟨b9, 0, none⟩)) g9 ?_
  refine aax2 (i := 9) (j := 19) (by kernel_rfl) ?_ ?_
  · exact aa_oL (listed' := q9_l22) rfl rfl rfl rfl (by kernel_rfl) (ao_load (v := .int _ _) Try.isAgg22 (by rfl) (by exact HLp) (by rfl) (by exact RFp)) (aa_take (i := 11) (listed' := q9_l12) rfl (by kernel_rfl) (by kernel_rfl) (by kernel_rfl) rfl rfl rfl (by kernel_rfl) hp ((apm_sub rfl rfl).val (nw_i16 BDp BDp)) (aa_take (i := 17) (listed' := q9_l3) rfl (by kernel_rfl) (by kernel_rfl) (by kernel_rfl) rfl rfl rfl (by kernel_rfl) hp (apm_build (A := #[.int .i16 (L - x), .slice (some ⟨b60, 0, none⟩) (ks.drop k).length ((ks.drop k).length + 1)]) Try.zeroValue27 (by rfl) Try.underlying27 (by kernel_rfl) (by rfl) (by first | rfl | kernel_rfl)) (q9_st_3 hkl hcc hlen hL hv h1 h2 hx hp hfin _ _ ⟨_, rfl, b50, b60, b9, hk0, hk1, hk2, hk3, hk4, hn, hl50, hu50, hc50, hl60, hu60, hc60, hl9, hu9, hc9, he50_60, he50_9, he60_9, rfl, rfl, rfl, rfl, rfl, rfl⟩)))
  · exact aa_oL (listed' := q9_l15) rfl rfl rfl rfl (by kernel_rfl) (ao_alloca (zv27) (by rfl)) (q9_st_10 hkl hcc hlen hL hv h1 h2 hx hp hfin _ _ ⟨_, rfl, b50, b60, b9, G.next, hk0.push (by omega) _, blk_push_old hk1, blk_push_old hk2, blk_push_old hk3, blk_push_old hk4, Nat.le_succ_of_le hn, hl50, Nat.lt_succ_of_lt hu50, blk_push_old hc50, hl60, Nat.lt_succ_of_lt hu60, blk_push_old hc60, hl9, Nat.lt_succ_of_lt hu9, blk_push_old hc9, hn, Nat.lt_succ_self _, blk_push_new _ _, he50_60, he50_9, he60_9, Nat.ne_of_lt hu50, Nat.ne_of_lt hu60, Nat.ne_of_lt hu9, rfl, rfl, rfl, rfl, rfl, rfl, rfl, rfl, rfl⟩)
set_option maxHeartbeats 4000000 in
theorem q9_st_14 {L : Int} {ks : List Int} {lb c' k : Nat} {x : Int} {H : AHeap} {Q : Exit → AFr → AHeap → Prop} (hkl : H.blk lb = some (.cells (fl i16 ks) 1)) (hcc : ks.length ≤ c') (hlen : ks.length ≤ 4194304) (hL : -32768 ≤ L ∧ L ≤ 32767) (hv : okRope L ks) (h1 : 0 < k) (h2 : k + 1 < ks.length) (hx : ks[k]? = some x) (hp : ∀ c fr G, ¬ Q (.panic c) fr G) (hfin : ∀ fr G, q9_J0 L ks lb c' k x H fr G → Q .normal fr G) : ∀ fr G, q9_J14 L ks lb c' k x H fr G → AA Try.prog ops_q9 Q 6 q9_l23 fr G := by
  have hlt0 := AHeap.lt hkl
  have ⟨v1, v2, v3, v4, v5, v6, v7⟩ := hv
  have bx := hv.bnd hx
  have hcl := cutB_len ks k x
  have htl : (ks.take (k + 1)).length = k + 1 := by simp; omega
  have hdl : (ks.drop k).length = ks.length - k := by simp
  rintro fr G ⟨get, rfl, b50, b60, b10, hk0, hk1, hk2, hk3, hk4, hn, hl50, hu50, hc50, hl60, hu60, hc60, hl10, hu10, hc10, he50_60, he50_10, he60_10, g4, g5, g8, g51, g52, g54, g60, g10⟩
  refine aa_slot (d := 4) (v := .pointer (some ⟨H.next + 1, 0, none⟩)) g4 ?_
  refine aa_slot (d := 5) (v := .pointer (some ⟨H.next + 2, 0, none⟩)) g5 ?_
  refine aa_slot (d := 8) (v := .int .i16 x) g8 ?_
  refine aa_slot (d := 51) (v := .agg #[.int .i16 x, .slice (some ⟨b50, 0, none⟩) (ks.take (k + 1)).length ((ks.take (k + 1)).length + 1)]) g51 ?_
  refine aa_slot (d := 52) (v := .pointer (some ⟨H.next, 0 + 0, none⟩)) g52 ?_
  refine aa_slot (d := 54) (v := .int .i16 x) g54 ?_
  refine aa_slot (d := 60) (v := .slice (some ⟨b60, 0, none⟩) (ks.drop k).length ((ks.drop k).length + 1)) g60 ?_
  refine aa_slot (d := 10) (v := .pointer (some ⟨b10, 0, none⟩)) g10 ?_
  refine aax2 (i := 9) (j := 18) (by kernel_rfl) ?_ ?_
  · exact aa_oL (listed' := q9_l24) rfl rfl rfl rfl (by kernel_rfl) (ao_load (v := .int _ _) Try.isAgg22 (by rfl) (by exact HLp) (by rfl) (by exact RFp)) (aa_take (i := 11) (listed' := q9_l14) rfl (by kernel_rfl) (by kernel_rfl) (by kernel_rfl) rfl rfl rfl (by kernel_rfl) hp ((apm_sub rfl rfl).val (nw_i16 BDp BDp)) (aa_take (i := 17) (listed' := q9_l4) rfl (by kernel_rfl) (by kernel_rfl) (by kernel_rfl) rfl rfl rfl (by kernel_rfl) hp (apm_build (A := #[.int .i16 (L - x), .slice (some ⟨b60, 0, none⟩) (ks.drop k).length ((ks.drop k).length + 1)]) Try.zeroValue27 (by rfl) Try.underlying27 (by kernel_rfl) (by rfl) (by first | rfl | kernel_rfl)) (q9_st_4 hkl hcc hlen hL hv h1 h2 hx hp hfin _ _ ⟨_, rfl, b50, b60, b10, hk0, hk1, hk2, hk3, hk4, hn, hl50, hu50, hc50, hl60, hu60, hc60, hl10, hu10, hc10, he50_60, he50_10, he60_10, rfl, rfl, rfl, rfl, rfl, rfl⟩)))
  · exact aa_oL (listed' := q9_l15) rfl rfl rfl rfl (by kernel_rfl) (ao_alloca (zv27) (by rfl)) (q9_st_10 hkl hcc hlen hL hv h1 h2 hx hp hfin _ _ ⟨_, rfl, b50, b60, G.next, b10, hk0.push (by omega) _, blk_push_old hk1, blk_push_old hk2, blk_push_old hk3, blk_push_old hk4, Nat.le_succ_of_le hn, hl50, Nat.lt_succ_of_lt hu50, blk_push_old hc50, hl60, Nat.lt_succ_of_lt hu60, blk_push_old hc60, hn, Nat.lt_succ_self _, blk_push_new _ _, hl10, Nat.lt_succ_of_lt hu10, blk_push_old hc10, he50_60, Nat.ne_of_lt hu50, Nat.ne_of_lt hu60, he50_10, he60_10, (Nat.ne_of_gt hu10), rfl, rfl, rfl, rfl, rfl, rfl, rfl, rfl, rfl⟩)
set_option maxHeartbeats 4000000 in
theorem q9_st_15 {L : Int} {ks : List Int} {lb c' k : Nat} {x : Int} {H : AHeap} {Q : Exit → AFr → AHeap → Prop} (hkl : H.blk lb = some (.cells (fl i16 ks) 1)) (hcc : ks.length ≤ c') (hlen : ks.length ≤ 4194304) (hL : -32768 ≤ L ∧ L ≤ 32767) (hv : okRope L ks) (h1 : 0 < k) (h2 : k + 1 < ks.length) (hx : ks[k]? = some x) (hp : ∀ c fr G, ¬ Q (.panic c) fr G) (hfin : ∀ fr G, q9_J0 L ks lb c' k x H fr G → Q .normal fr G) : ∀ fr G, q9_J15 L ks lb c' k x H fr G → AA Try.prog ops_q9 Q 6 q9_l25 fr G := by
  have hlt0 := AHeap.lt hkl
  have ⟨v1, v2, v3, v4, v5, v6, v7⟩ := hv
  have bx := hv.bnd hx
  have hcl := cutB_len ks k x
  have htl : (ks.take (k + 1)).length = k + 1 := by simp; omega
  have hdl : (ks.drop k).length = ks.length - k := by simp
  rintro fr G ⟨get, rfl, b50, b9, b10, hk0, hk1, hk2, hk3, hk4, hn, hl50, hu50, hc50, hl9, hu9, hc9, hl10, hu10, hc10, he50_9, he50_10, he9_10, g4, g5, g8, g51, g52, g54, g59, g9, g10⟩
  refine aa_slot (d := 4) (v := .pointer (some ⟨H.next + 1, 0, none⟩)) g4 ?_
  refine aa_slot (d := 5) (v := .pointer (some ⟨H.next + 2, 0, none⟩)) g5 ?_
  refine aa_slot (d := 8) (v := .int .i16 x) g8 ?_
  refine aa_slot (d := 51) (v := .agg #[.int .i16 x, .slice (some ⟨b50, 0, none⟩) (ks.take (k + 1)).length ((ks.take (k + 1)).length + 1)]) g51 ?_
  refine aa_slot (d := 52) (v := .pointer (some ⟨H.next, 0 + 0, none⟩)) g52 ?_
  refine aa_slot (d := 54) (v := .int .i16 x) g54 ?_
  refine aa_slot (d := 59) (v := .slice (some ⟨lb, 0 + k * 1, none⟩) (ks.length - k) (ks.length - k + 1)) g59 ?_
  refine aa_slot (d := 9) (v := .pointer (some ⟨b9, 0, none⟩)) g9 ?_
  refine aa_slot (d := 10) (v := .pointer (some ⟨b10, 0, none⟩)) g10 ?_
  refine aax2 (i := 9) (j := 16) (by kernel_rfl) ?_ ?_
  · exact aa_oL (listed' := q9_l26) rfl rfl rfl rfl (by kernel_rfl) (ao_load (v := .int _ _) Try.isAgg22 (by rfl) (by exact HLp) (by rfl) (by exact RFp)) (aa_take (i := 11) (listed' := q9_l6) rfl (by kernel_rfl) (by kernel_rfl) (by kernel_rfl) rfl rfl rfl (by kernel_rfl) hp ((apm_sub rfl rfl).val (nw_i16 BDp BDp)) (q9_st_6 hkl hcc hlen hL hv h1 h2 hx hp hfin _ _ ⟨_, rfl, b50, b9, b10, hk0, hk1, hk2, hk3, hk4, hn, hl50, hu50, hc50, hl9, hu9, hc9, hl10, hu10, hc10, he50_9, he50_10, he9_10, rfl, rfl, rfl, rfl, rfl, rfl, rfl, rfl⟩))
  · exact aa_oL (listed' := q9_l15) rfl rfl rfl rfl (by kernel_rfl) (ao_calld (cloneI16n_c (l := ks.drop k) (n := ks.length - k) (Sl.part (i := k) i16_len (by exact HLp) rfl rfl (by omega) (List.take_of_length_le (by omega)) (by omega)) (by omega) (by omega)) Try.call26 rfl rfl) (q9_st_10 hkl hcc hlen hL hv h1 h2 hx hp hfin _ _ ⟨_, rfl, b50, G.next, b9, b10, hk0.push (by omega) _, blk_push_old hk1, blk_push_old hk2, blk_push_old hk3, blk_push_old hk4, Nat.le_succ_of_le hn, hl50, Nat.lt_succ_of_lt hu50, blk_push_old hc50, hn, Nat.lt_succ_self _, blk_push_new _ _, hl9, Nat.lt_succ_of_lt hu9, blk_push_old hc9, hl10, Nat.lt_succ_of_lt hu10, blk_push_old hc10, Nat.ne_of_lt hu50, he50_9, (Nat.ne_of_gt hu9), he50_10, (Nat.ne_of_gt hu10), he9_10, rfl, rfl, rfl, rfl, rfl, rfl, rfl, rfl, rfl⟩)
set_option maxHeartbeats 4000000 in
theorem q9_st_16 {L : Int} {ks : List Int} {lb c' k : Nat} {x : Int} {H : AHeap} {Q : Exit → AFr → AHeap → Prop} (hkl : H.blk lb = some (.cells (fl i16 ks) 1)) (hcc : ks.length ≤ c') (hlen : ks.length ≤ 4194304) (hL : -32768 ≤ L ∧ L ≤ 32767) (hv : okRope L ks) (h1 : 0 < k) (h2 : k + 1 < ks.length) (hx : ks[k]? = some x) (hp : ∀ c fr G, ¬ Q (.panic c) fr G) (hfin : ∀ fr G, q9_J0 L ks lb c' k x H fr G → Q .normal fr G) : ∀ fr G, q9_J16 L ks lb c' k x H fr G → AA Try.prog ops_q9 Q 6 q9_l27 fr G := by
  have hlt0 := AHeap.lt hkl
  have ⟨v1, v2, v3, v4, v5, v6, v7⟩ := hv
  have bx := hv.bnd hx
  have hcl := cutB_len ks k x
  have htl : (ks.take (k + 1)).length = k + 1 := by simp; omega
  have hdl : (ks.drop k).length = ks.length - k := by simp
  rintro fr G ⟨get, rfl, b9, b10, hk0, hk1, hk2, hk3, hk4, hn, hl9, hu9, hc9, hl10, hu10, hc10, he9_10, g4, g5, g8, g44, g49, g55, g59, g9, g10⟩
  refine aa_slot (d := 4) (v := .pointer (some ⟨H.next + 1, 0, none⟩)) g4 ?_
  refine aa_slot (d := 5) (v := .pointer (some ⟨H.next + 2, 0, none⟩)) g5 ?_
  refine aa_slot (d := 8) (v := .int .i16 x) g8 ?_
  refine aa_slot (d := 44) (v := .int .i16 x) g44 ?_
  refine aa_slot (d := 49) (v := .slice (some ⟨lb, 0, none⟩) (k + 1) (k + 1 + 1)) g49 ?_
  refine aa_slot (d := 55) (v := .int .i16 (L - x)) g55 ?_
  refine aa_slot (d := 59) (v := .slice (some ⟨lb, 0 + k * 1, none⟩) (ks.length - k) (ks.length - k + 1)) g59 ?_
  refine aa_slot (d := 9) (v := .pointer (some ⟨b9, 0, none⟩)) g9 ?_
  refine aa_slot (d := 10) (v := .pointer (some ⟨b10, 0, none⟩)) g10 ?_
  refine aax1 (i := 6) (by kernel_rfl) ?_
  · exact aa_oL (listed' := q9_l28) rfl rfl rfl rfl (by kernel_rfl) (ao_calld (cloneI16n_c (l := ks.take (k + 1)) (n := k + 1) (Sl.part (i := 0) i16_len (by exact HLp) rfl rfl (by simp) rfl (by simp; omega)) (by omega) (by omega)) Try.call26 rfl rfl) (aa_take (i := 7) (listed' := q9_l6) rfl (by kernel_rfl) (by kernel_rfl) (by kernel_rfl) rfl rfl rfl (by kernel_rfl) hp (apm_build (A := #[.int .i16 x, .slice (some ⟨G.next, 0, none⟩) (ks.take (k + 1)).length ((ks.take (k + 1)).length + 1)]) Try.zeroValue27 (by rfl) Try.underlying27 (by kernel_rfl) (by rfl) (by first | rfl | kernel_rfl)) (q9_st_6 hkl hcc hlen hL hv h1 h2 hx hp hfin _ _ ⟨_, rfl, G.next, b9, b10, hk0.push (by omega) _, blk_push_old hk1, blk_push_old hk2, blk_push_old hk3, blk_push_old hk4, Nat.le_succ_of_le hn, hn, Nat.lt_succ_self _, blk_push_new _ _, hl9, Nat.lt_succ_of_lt hu9, blk_push_old hc9, hl10, Nat.lt_succ_of_lt hu10, blk_push_old hc10, (Nat.ne_of_gt hu9), (Nat.ne_of_gt hu10), he9_10, rfl, rfl, rfl, rfl, rfl, rfl, rfl, rfl⟩))
set_option maxHeartbeats 4000000 in
theorem q9_st_17 {L : Int} {ks : List Int} {lb c' k : Nat} {x : Int} {H : AHeap} {Q : Exit → AFr → AHeap → Prop} (hkl : H.blk lb = some (.cells (fl i16 ks) 1)) (hcc : ks.length ≤ c') (hlen : ks.length ≤ 4194304) (hL : -32768 ≤ L ∧ L ≤ 32767) (hv : okRope L ks) (h1 : 0 < k) (h2 : k + 1 < ks.length) (hx : ks[k]? = some x) (hp : ∀ c fr G, ¬ Q (.panic c) fr G) (hfin : ∀ fr G, q9_J0 L ks lb c' k x H fr G → Q .normal fr G) : ∀ fr G, q9_J17 L ks lb c' k x H fr G → AA Try.prog ops_q9 Q 7 q9_l29 fr G := by
  have hlt0 := AHeap.lt hkl
  have ⟨v1, v2, v3, v4, v5, v6, v7⟩ := hv
  have bx := hv.bnd hx
  have hcl := cutB_len ks k x
  have htl : (ks.take (k + 1)).length = k + 1 := by simp; omega
  have hdl : (ks.drop k).length = ks.length - k := by simp
  rintro fr G ⟨get, rfl, b50, b9, hk0, hk1, hk2, hk3, hk4, hn, hl50, hu50, hc50, hl9, hu9, hc9, he50_9, g4, g5, g8, g51, g55, g56, g58, g9⟩
  refine aa_slot (d := 4) (v := .pointer (some ⟨H.next + 1, 0, none⟩)) g4 ?_
  refine aa_slot (d := 5) (v := .pointer (some ⟨H.next + 2, 0, none⟩)) g5 ?_
  refine aa_slot (d := 8) (v := .int .i16 x) g8 ?_
  refine aa_slot (d := 51) (v := .agg #[.int .i16 x, .slice (some ⟨b50, 0, none⟩) (ks.take (k + 1)).length ((ks.take (k + 1)).length + 1)]) g51 ?_
  refine aa_slot (d := 55) (v := .int .i16 (L - x)) g55 ?_
  refine aa_slot (d := 56) (v := .pointer (some ⟨H.next, 0 + 1, none⟩)) g56 ?_
  refine aa_slot (d := 58) (v := .int .i64 k) g58 ?_
  refine aa_slot (d := 9) (v := .pointer (some ⟨b9, 0, none⟩)) g9 ?_
  refine aax2 (i := 13) (j := 19) (by kernel_rfl) ?_ ?_
  · exact aa_oL (listed' := q9_l30) rfl rfl rfl rfl (by kernel_rfl) (ao_load (v := .slice _ _ _) Try.isAgg23 (by rfl) (by exact HLp) (by rfl) (by exact RFp)) (aa_take (i := 15) (listed' := q9_l11) rfl (by kernel_rfl) (by kernel_rfl) (by kernel_rfl) rfl rfl rfl (by kernel_rfl) hp (apm_sliceLo Try.underlying23 Try.sizeOf22 (by rfl) (by rfl) (by first | rfl | omega) (by exact HLp) (by rfl) (by exact IXp)) (q9_st_8 hkl hcc hlen hL hv h1 h2 hx hp hfin _ _ ⟨_, rfl, b50, b9, hk0, hk1, hk2, hk3, hk4, hn, hl50, hu50, hc50, hl9, hu9, hc9, he50_9, rfl, rfl, rfl, rfl, rfl, rfl, rfl⟩))
  · exact aa_oL (listed' := q9_l19) rfl rfl rfl rfl (by kernel_rfl) (ao_alloca (zv27) (by rfl)) (q9_st_12 hkl hcc hlen hL hv h1 h2 hx hp hfin _ _ ⟨_, rfl, b50, b9, G.next, hk0.push (by omega) _, blk_push_old hk1, blk_push_old hk2, blk_push_old hk3, blk_push_old hk4, Nat.le_succ_of_le hn, hl50, Nat.lt_succ_of_lt hu50, blk_push_old hc50, hl9, Nat.lt_succ_of_lt hu9, blk_push_old hc9, hn, Nat.lt_succ_self _, blk_push_new _ _, he50_9, Nat.ne_of_lt hu50, Nat.ne_of_lt hu9, rfl, rfl, rfl, rfl, rfl, rfl, rfl, rfl, rfl⟩)
set_option maxHeartbeats 4000000 in
theorem q9_st_18 {L : Int} {ks : List Int} {lb c' k : Nat} {x : Int} {H : AHeap} {Q : Exit → AFr → AHeap → Prop} (hkl : H.blk lb = some (.cells (fl i16 ks) 1)) (hcc : ks.length ≤ c') (hlen : ks.length ≤ 4194304) (hL : -32768 ≤ L ∧ L ≤ 32767) (hv : okRope L ks) (h1 : 0 < k) (h2 : k + 1 < ks.length) (hx : ks[k]? = some x) (hp : ∀ c fr G, ¬ Q (.panic c) fr G) (hfin : ∀ fr G, q9_J0 L ks lb c' k x H fr G → Q .normal fr G) : ∀ fr G, q9_J18 L ks lb c' k x H fr G → AA Try.prog ops_q9 Q 7 q9_l31 fr G := by
  have hlt0 := AHeap.lt hkl
  have ⟨v1, v2, v3, v4, v5, v6, v7⟩ := hv
  have bx := hv.bnd hx
  have hcl := cutB_len ks k x
  have htl : (ks.take (k + 1)).length = k + 1 := by simp; omega
  have hdl : (ks.drop k).length = ks.length - k := by simp
  rintro fr G ⟨get, rfl, b50, b10, hk0, hk1, hk2, hk3, hk4, hn, hl50, hu50, hc50, hl10, hu10, hc10, he50_10, g4, g5, g8, g51, g55, g56, g58, g10⟩
  refine aa_slot (d := 4) (v := .pointer (some ⟨H.next + 1, 0, none⟩)) g4 ?_
  refine aa_slot (d := 5) (v := .pointer (some ⟨H.next + 2, 0, none⟩)) g5 ?_
  refine aa_slot (d := 8) (v := .int .i16 x) g8 ?_
  refine aa_slot (d := 51) (v := .agg #[.int .i16 x, .slice (some ⟨b50, 0, none⟩) (ks.take (k + 1)).length ((ks.take (k + 1)).length + 1)]) g51 ?_
  refine aa_slot (d := 55) (v := .int .i16 (L - x)) g55 ?_
  refine aa_slot (d := 56) (v := .pointer (some ⟨H.next, 0 + 1, none⟩)) g56 ?_
  refine aa_slot (d := 58) (v := .int .i64 k) g58 ?_
  refine aa_slot (d := 10) (v := .pointer (some ⟨b10, 0, none⟩)) g10 ?_
  refine aax2 (i := 13) (j := 18) (by kernel_rfl) ?_ ?_
  · exact aa_oL (listed' := q9_l32) rfl rfl rfl rfl (by kernel_rfl) (ao_load (v := .slice _ _ _) Try.isAgg23 (by rfl) (by exact HLp) (by rfl) (by exact RFp)) (aa_take (i := 15) (listed' := q9_l13) rfl (by kernel_rfl) (by kernel_rfl) (by kernel_rfl) rfl rfl rfl (by kernel_rfl) hp (apm_sliceLo Try.underlying23 Try.sizeOf22 (by rfl) (by rfl) (by first | rfl | omega) (by exact HLp) (by rfl) (by exact IXp)) (q9_st_9 hkl hcc hlen hL hv h1 h2 hx hp hfin _ _ ⟨_, rfl, b50, b10, hk0, hk1, hk2, hk3, hk4, hn, hl50, hu50, hc50, hl10, hu10, hc10, he50_10, rfl, rfl, rfl, rfl, rfl, rfl, rfl⟩))
  · exact aa_oL (listed' := q9_l19) rfl rfl rfl rfl (by kernel_rfl) (ao_alloca (zv27) (by rfl)) (q9_st_12 hkl hcc hlen hL hv h1 h2 hx hp hfin _ _ ⟨_, rfl, b50, G.next, b10, hk0.push (by omega) _, blk_push_old hk1, blk_push_old hk2, blk_push_old hk3, blk_push_old hk4, Nat.le_succ_of_le hn, hl50, Nat.lt_succ_of_lt hu50, blk_push_old hc50, hn, Nat.lt_succ_self _, blk_push_new _ _, hl10, Nat.lt_succ_of_lt hu10, blk_push_old hc10, Nat.ne_of_lt hu50, he50_10, (Nat.ne_of_gt hu10), rfl, rfl, rfl, rfl, rfl, rfl, rfl, rfl, rfl⟩)
set_option maxHeartbeats 4000000 in
theorem q9_st_19 {L : Int} {ks : List Int} {lb c' k : Nat} {x : Int} {H : AHeap} {Q : Exit → AFr → AHeap → Prop} (hkl : H.blk lb = some (.cells (fl i16 ks) 1)) (hcc : ks.length ≤ c') (hlen : ks.length ≤ 4194304) (hL : -32768 ≤ L ∧ L ≤ 32767) (hv : okRope L ks) (h1 : 0 < k) (h2 : k + 1 < ks.length) (hx : ks[k]? = some x) (hp : ∀ c fr G, ¬ Q (.panic c) fr G) (hfin : ∀ fr G, q9_J0 L ks lb c' k x H fr G → Q .normal fr G) : ∀ fr G, q9_J19 L ks lb c' k x H fr G → AA Try.prog ops_q9 Q 7 q9_l33 fr G := by
  have hlt0 := AHeap.lt hkl
  have ⟨v1, v2, v3, v4, v5, v6, v7⟩ := hv
  have bx := hv.bnd hx
  have hcl := cutB_len ks k x
  have htl : (ks.take (k + 1)).length = k + 1 := by simp; omega
  have hdl : (ks.drop k).length = ks.length - k := by simp
  rintro fr G ⟨get, rfl, b50, b60, hk0, hk1, hk2, hk3, hk4, hn, hl50, hu50, hc50, hl60, hu60, hc60, he50_60, g4, g5, g8, g51, g52, g54, g60⟩
  refine aa_slot (d := 4) (v := .pointer (some ⟨H.next + 1, 0, none⟩)) g4 ?_
  refine aa_slot (d := 5) (v := .pointer (some ⟨H.next + 2, 0, none⟩)) g5 ?_
  refine aa_slot (d := 8) (v := .int .i16 x) g8 ?_
  refine aa_slot (d := 51) (v := .agg #[.int .i16 x, .slice (some ⟨b50, 0, none⟩) (ks.take (k + 1)).length ((ks.take (k + 1)).length + 1)]) g51 ?_
  refine aa_slot (d := 52) (v := .pointer (some ⟨H.next, 0 + 0, none⟩)) g52 ?_
  refine aa_slot (d := 54) (v := .int .i16 x) g54 ?_
  refine aa_slot (d := 60) (v := .slice (some ⟨b60, 0, none⟩) (ks.drop k).length ((ks.drop k).length + 1)) g60 ?_
  refine aax3 (i := 9) (j := 18) (l := 19) (by kernel_rfl) ?_ ?_ ?_
  · exact aa_oL (listed' := q9_l34) rfl rfl rfl rfl (by kernel_rfl) (ao_load (v := .int _ _) Try.isAgg22 (by rfl) (by exact HLp) (by rfl) (by exact RFp)) (aa_take (i := 11) (listed' := q9_l18) rfl (by kernel_rfl) (by kernel_rfl) (by kernel_rfl) rfl rfl rfl (by kernel_rfl) hp ((apm_sub rfl rfl).val (nw_i16 BDp BDp)) (aa_take (i := 17) (listed' := q9_l5) rfl (by kernel_rfl) (by kernel_rfl) (by kernel_rfl) rfl rfl rfl (by kernel_rfl) hp (apm_build (A := #[.int .i16 (L - x), .slice (some ⟨b60, 0, none⟩) (ks.drop k).length ((ks.drop k).length + 1)]) Try.zeroValue27 (by rfl) Try.underlying27 (by kernel_rfl) (by rfl) (by first | rfl | kernel_rfl)) (q9_st_5 hkl hcc hlen hL hv h1 h2 hx hp hfin _ _ ⟨_, rfl, b50, b60, hk0, hk1, hk2, hk3, hk4, hn, hl50, hu50, hc50, hl60, hu60, hc60, he50_60, rfl, rfl, rfl, rfl, rfl⟩)))
  · exact aa_oL (listed' := q9_l21) rfl rfl rfl rfl (by kernel_rfl) (ao_alloca (zv27) (by rfl)) (q9_st_13 hkl hcc hlen hL hv h1 h2 hx hp hfin _ _ ⟨_, rfl, b50, b60, G.next, hk0.push (by omega) _, blk_push_old hk1, blk_push_old hk2, blk_push_old hk3, blk_push_old hk4, Nat.le_succ_of_le hn, hl50, Nat.lt_succ_of_lt hu50, blk_push_old hc50, hl60, Nat.lt_succ_of_lt hu60, blk_push_old hc60, hn, Nat.lt_succ_self _, blk_push_new _ _, he50_60, Nat.ne_of_lt hu50, Nat.ne_of_lt hu60, rfl, rfl, rfl, rfl, rfl, rfl, rfl, rfl⟩)
  · exact aa_oL (listed' := q9_l23) rfl rfl rfl rfl (by kernel_rfl) (ao_alloca (zv27) (by rfl)) (q9_st_14 hkl hcc hlen hL hv h1 h2 hx hp hfin _ _ ⟨_, rfl, b50, b60, G.next, hk0.push (by omega) _, blk_push_old hk1, blk_push_old hk2, blk_push_old hk3, blk_push_old hk4, Nat.le_succ_of_le hn, hl50, Nat.lt_succ_of_lt hu50, blk_push_old hc50, hl60, Nat.lt_succ_of_lt hu60, blk_push_old hc60, hn, Nat.lt_succ_self _, blk_push_new _ _, he50_60, Nat.ne_of_lt hu50, Nat.ne_of_lt hu60, rfl, rfl, rfl, rfl, rfl, rfl, rfl, rfl⟩)
set_option maxHeartbeats 4000000 in
theorem q9_st_20 {L : Int} {ks : List Int} {lb c' k : Nat} {x : Int} {H : AHeap} {Q : Exit → AFr → AHeap → Prop} (hkl : H.blk lb = some (.cells (fl i16 ks) 1)) (hcc : ks.length ≤ c') (hlen : ks.length ≤ 4194304) (hL : -32768 ≤ L ∧ L ≤ 32767) (hv : okRope L ks) (h1 : 0 < k) (h2 : k + 1 < ks.length) (hx : ks[k]? = some x) (hp : ∀ c fr G, ¬ Q (.panic c) fr G) (hfin : ∀ fr G, q9_J0 L ks lb c' k x H fr G → Q .normal fr G) : ∀ fr G, q9_J20 L ks lb c' k x H fr G → AA Try.prog ops_q9 Q 7 q9_l35 fr G := by
  have hlt0 := AHeap.lt hkl
  have ⟨v1, v2, v3, v4, v5, v6, v7⟩ := hv
  have bx := hv.bnd hx
  have hcl := cutB_len ks k x
  have htl : (ks.take (k + 1)).length = k + 1 := by simp; omega
  have hdl : (ks.drop k).length = ks.length - k := by simp
  rintro fr G ⟨get, rfl, b50, b9, hk0, hk1, hk2, hk3, hk4, hn, hl50, hu50, hc50, hl9, hu9, hc9, he50_9, g4, g5, g8, g51, g52, g54, g59, g9⟩
  refine aa_slot (d := 4) (v := .pointer (some ⟨H.next + 1, 0, none⟩)) g4 ?_
  refine aa_slot (d := 5) (v := .pointer (some ⟨H.next + 2, 0, none⟩)) g5 ?_
  refine aa_slot (d := 8) (v := .int .i16 x) g8 ?_
  refine aa_slot (d := 51) (v := .agg #[.int .i16 x, .slice (some ⟨b50, 0, none⟩) (ks.take (k + 1)).length ((ks.take (k + 1)).length + 1)]) g51 ?_
  refine aa_slot (d := 52) (v := .pointer (some ⟨H.next, 0 + 0, none⟩)) g52 ?_
  refine aa_slot (d := 54) (v := .int .i16 x) g54 ?_
  refine aa_slot (d := 59) (v := .slice (some ⟨lb, 0 + k * 1, none⟩) (ks.length - k) (ks.length - k + 1)) g59 ?_
  refine aa_slot (d := 9) (v := .pointer (some ⟨b9, 0, none⟩)) g9 ?_
  refine aax3 (i := 9) (j := 16) (l := 19) (by kernel_rfl) ?_ ?_ ?_
  · exact aa_oL (listed' := q9_l36) rfl rfl rfl rfl (by kernel_rfl) (ao_load (v := .int _ _) Try.isAgg22 (by rfl) (by exact HLp) (by rfl) (by exact RFp)) (aa_take (i := 11) (listed' := q9_l11) rfl (by kernel_rfl) (by kernel_rfl) (by kernel_rfl) rfl rfl rfl (by kernel_rfl) hp ((apm_sub rfl rfl).val (nw_i16 BDp BDp)) (q9_st_8 hkl hcc hlen hL hv h1 h2 hx hp hfin _ _ ⟨_, rfl, b50, b9, hk0, hk1, hk2, hk3, hk4, hn, hl50, hu50, hc50, hl9, hu9, hc9, he50_9, rfl, rfl, rfl, rfl, rfl, rfl, rfl⟩))
  · exact aa_oL (listed' := q9_l21) rfl rfl rfl rfl (by kernel_rfl) (ao_calld (cloneI16n_c (l := ks.drop k) (n := ks.length - k) (Sl.part (i := k) i16_len (by exact HLp) rfl rfl (by omega) (List.take_of_length_le (by omega)) (by omega)) (by omega) (by omega)) Try.call26 rfl rfl) (q9_st_13 hkl hcc hlen hL hv h1 h2 hx hp hfin _ _ ⟨_, rfl, b50, G.next, b9, hk0.push (by omega) _, blk_push_old hk1, blk_push_old hk2, blk_push_old hk3, blk_push_old hk4, Nat.le_succ_of_le hn, hl50, Nat.lt_succ_of_lt hu50, blk_push_old hc50, hn, Nat.lt_succ_self _, blk_push_new _ _, hl9, Nat.lt_succ_of_lt hu9, blk_push_old hc9, Nat.ne_of_lt hu50, he50_9, (Nat.ne_of_gt hu9), rfl, rfl, rfl, rfl, rfl, rfl, rfl, rfl⟩)
  · exact aa_oL (listed' := q9_l25) rfl rfl rfl rfl (by kernel_rfl) (ao_alloca (zv27) (by rfl)) (q9_st_15 hkl hcc hlen hL hv h1 h2 hx hp hfin _ _ ⟨_, rfl, b50, b9, G.next, hk0.push (by omega) _, blk_push_old hk1, blk_push_old hk2, blk_push_old hk3, blk_push_old hk4, Nat.le_succ_of_le hn, hl50, Nat.lt_succ_of_lt hu50, blk_push_old hc50, hl9, Nat.lt_succ_of_lt hu9, blk_push_old hc9, hn, Nat.lt_succ_self _, blk_push_new _ _, he50_9, Nat.ne_of_lt hu50, Nat.ne_of_lt hu9, rfl, rfl, rfl, rfl, rfl, rfl, rfl, rfl, rfl⟩)
set_option maxHeartbeats 4000000 in
theorem q9_st_21 {L : Int} {ks : List Int} {lb c' k : Nat} {x : Int} {H : AHeap} {Q : Exit → AFr → AHeap → Prop} (hkl : H.blk lb = some (.cells (fl i16 ks) 1)) (hcc : ks.length ≤ c') (hlen : ks.length ≤ 4194304) (hL : -32768 ≤ L ∧ L ≤ 32767) (hv : okRope L ks) (h1 : 0 < k) (h2 : k + 1 < ks.length) (hx : ks[k]? = some x) (hp : ∀ c fr G, ¬ Q (.panic c) fr G) (hfin : ∀ fr G, q9_J0 L ks lb c' k x H fr G → Q .normal fr G) : ∀ fr G, q9_J21 L ks lb c' k x H fr G → AA Try.prog ops_q9 Q 7 q9_l37 fr G := by
  have hlt0 := AHeap.lt hkl
  have ⟨v1, v2, v3, v4, v5, v6, v7⟩ := hv
  have bx := hv.bnd hx
  have hcl := cutB_len ks k x
  have htl : (ks.take (k + 1)).length = k + 1 := by simp; omega
  have hdl : (ks.drop k).length = ks.length - k := by simp
  rintro fr G ⟨get, rfl, b50, b10, hk0, hk1, hk2, hk3, hk4, hn, hl50, hu50, hc50, hl10, hu10, hc10, he50_10, g4, g5, g8, g51, g52, g54, g59, g10⟩
  refine aa_slot (d := 4) (v := .pointer (some ⟨H.next + 1, 0, none⟩)) g4 ?_
  refine aa_slot (d := 5) (v := .pointer (some ⟨H.next + 2, 0, none⟩)) g5 ?_
  refine aa_slot (d := 8) (v := .int .i16 x) g8 ?_
  refine aa_slot (d := 51) (v := .agg #[.int .i16 x, .slice (some ⟨b50, 0, none⟩) (ks.take (k + 1)).length ((ks.take (k + 1)).length + 1)]) g51 ?_
  refine aa_slot (d := 52) (v := .pointer (some ⟨H.next, 0 + 0, none⟩)) g52 ?_
  refine aa_slot (d := 54) (v := .int .i16 x) g54 ?_
  refine aa_slot (d := 59) (v := .slice (some ⟨lb, 0 + k * 1, none⟩) (ks.length - k) (ks.length - k + 1)) g59 ?_
  refine aa_slot (d := 10) (v := .pointer (some ⟨b10, 0, none⟩)) g10 ?_
  refine aax3 (i := 9) (j := 16) (l := 18) (by kernel_rfl) ?_ ?_ ?_
  · exact aa_oL (listed' := q9_l38) rfl rfl rfl rfl (by kernel_rfl) (ao_load (v := .int _ _) Try.isAgg22 (by rfl) (by exact HLp) (by rfl) (by exact RFp)) (aa_take (i := 11) (listed' := q9_l13) rfl (by kernel_rfl) (by kernel_rfl) (by kernel_rfl) rfl rfl rfl (by kernel_rfl) hp ((apm_sub rfl rfl).val (nw_i16 BDp BDp)) (q9_st_9 hkl hcc hlen hL hv h1 h2 hx hp hfin _ _ ⟨_, rfl, b50, b10, hk0, hk1, hk2, hk3, hk4, hn, hl50, hu50, hc50, hl10, hu10, hc10, he50_10, rfl, rfl, rfl, rfl, rfl, rfl, rfl⟩))
  · exact aa_oL (listed' := q9_l23) rfl rfl rfl rfl (by kernel_rfl) (ao_calld (cloneI16n_c (l := ks.drop k) (n := ks.length - k) (Sl.part (i := k) i16_len (by exact HLp) rfl rfl (by omega) (List.take_of_length_le (by omega)) (by omega)) (by omega) (by omega)) Try.call26 rfl rfl) (q9_st_14 hkl hcc hlen hL hv h1 h2 hx hp hfin _ _ ⟨_, rfl, b50, G.next, b10, hk0.push (by omega) _, blk_push_old hk1, blk_push_old hk2, blk_push_old hk3, blk_push_old hk4, Nat.le_succ_of_le hn, hl50, Nat.lt_succ_of_lt hu50, blk_push_old hc50, hn, Nat.lt_succ_self _, blk_push_new _ _, hl10, Nat.lt_succ_of_lt hu10, blk_push_old hc10, Nat.ne_of_lt hu50, he50_10, (Nat.ne_of_gt hu10), rfl, rfl, rfl, rfl, rfl, rfl, rfl, rfl⟩)
  · exact aa_oL (listed' := q9_l25) rfl rfl rfl rfl (by kernel_rfl) (ao_alloca (zv27) (by rfl)) (q9_st_15 hkl hcc hlen hL hv h1 h2 hx hp hfin _ _ ⟨_, rfl, b50, G.next, b10, hk0.push (by omega) _, blk_push_old hk1, blk_push_old hk2, blk_push_old hk3, blk_push_old hk4, Nat.le_succ_of_le hn, hl50, Nat.lt_succ_of_lt hu50, blk_push_old hc50, hn, Nat.lt_succ_self _, blk_push_new _ _, hl10, Nat.lt_succ_of_lt hu10, blk_push_old hc10, Nat.ne_of_lt hu50, he50_10, (Nat.ne_of_gt hu10), rfl, rfl, rfl, rfl, rfl, rfl, rfl, rfl, rfl⟩)
set_option maxHeartbeats 4000000 in
theorem q9_st_22 {L : Int} {ks : List Int} {lb c' k : Nat} {x : Int} {H : AHeap} {Q : Exit → AFr → AHeap → Prop} (hkl : H.blk lb = some (.cells (fl i16 ks) 1)) (hcc : ks.length ≤ c') (hlen : ks.length ≤ 4194304) (hL : -32768 ≤ L ∧ L ≤ 32767) (hv : okRope L ks) (h1 : 0 < k) (h2 : k + 1 < ks.length) (hx : ks[k]? = some x) (hp : ∀ c fr G, ¬ Q (.panic c) fr G) (hfin : ∀ fr G, q9_J0 L ks lb c' k x H fr G → Q .normal fr G) : ∀ fr G, q9_J22 L ks lb c' k x H fr G → AA Try.prog ops_q9 Q 7 q9_l39 fr G := by
  have hlt0 := AHeap.lt hkl
  have ⟨v1, v2, v3, v4, v5, v6, v7⟩ := hv
  have bx := hv.bnd hx
  have hcl := cutB_len ks k x
  have htl : (ks.take (k + 1)).length = k + 1 := by simp; omega
  have hdl : (ks.drop k).length = ks.length - k := by simp
  rintro fr G ⟨get, rfl, b9, hk0, hk1, hk2, hk3, hk4, hn, hl9, hu9, hc9, g4, g5, g8, g44, g49, g55, g59, g9⟩
  refine aa_slot (d := 4) (v := .pointer (some ⟨H.next + 1, 0, none⟩)) g4 ?_
  refine aa_slot (d := 5) (v := .pointer (some ⟨H.next + 2, 0, none⟩)) g5 ?_
  refine aa_slot (d := 8) (v := .int .i16 x) g8 ?_
  refine aa_slot (d := 44) (v := .int .i16 x) g44 ?_
  refine aa_slot (d := 49) (v := .slice (some ⟨lb, 0, none⟩) (k + 1) (k + 1 + 1)) g49 ?_
  refine aa_slot (d := 55) (v := .int .i16 (L - x)) g55 ?_
  refine aa_slot (d := 59) (v := .slice (some ⟨lb, 0 + k * 1, none⟩) (ks.length - k) (ks.length - k + 1)) g59 ?_
  refine aa_slot (d := 9) (v := .pointer (some ⟨b9, 0, none⟩)) g9 ?_
  refine aax2 (i := 6) (j := 19) (by kernel_rfl) ?_ ?_
  · exact aa_oL (listed' := q9_l40) rfl rfl rfl rfl (by kernel_rfl) (ao_calld (cloneI16n_c (l := ks.take (k + 1)) (n := k + 1) (Sl.part (i := 0) i16_len (by exact HLp) rfl rfl (by simp) rfl (by simp; omega)) (by omega) (by omega)) Try.call26 rfl rfl) (aa_take (i := 7) (listed' := q9_l11) rfl (by kernel_rfl) (by kernel_rfl) (by kernel_rfl) rfl rfl rfl (by kernel_rfl) hp (apm_build (A := #[.int .i16 x, .slice (some ⟨G.next, 0, none⟩) (ks.take (k + 1)).length ((ks.take (k + 1)).length + 1)]) Try.zeroValue27 (by rfl) Try.underlying27 (by kernel_rfl) (by rfl) (by first | rfl | kernel_rfl)) (q9_st_8 hkl hcc hlen hL hv h1 h2 hx hp hfin _ _ ⟨_, rfl, G.next, b9, hk0.push (by omega) _, blk_push_old hk1, blk_push_old hk2, blk_push_old hk3, blk_push_old hk4, Nat.le_succ_of_le hn, hn, Nat.lt_succ_self _, blk_push_new _ _, hl9, Nat.lt_succ_of_lt hu9, blk_push_old hc9, (Nat.ne_of_gt hu9), rfl, rfl, rfl, rfl, rfl, rfl, rfl⟩))
  · exact aa_oL (listed' := q9_l27) rfl rfl rfl rfl (by kernel_rfl) (ao_alloca (zv27) (by rfl)) (q9_st_16 hkl hcc hlen hL hv h1 h2 hx hp hfin _ _ ⟨_, rfl, b9, G.next, hk0.push (by omega) _, blk_push_old hk1, blk_push_old hk2, blk_push_old hk3, blk_push_old hk4, Nat.le_succ_of_le hn, hl9, Nat.lt_succ_of_lt hu9, blk_push_old hc9, hn, Nat.lt_succ_self _, blk_push_new _ _, Nat.ne_of_lt hu9, rfl, rfl, rfl, rfl, rfl, rfl, rfl, rfl, rfl⟩)
set_option maxHeartbeats 4000000 in
theorem q9_st_23 {L : Int} {ks : List Int} {lb c' k : Nat} {x : Int} {H : AHeap} {Q : Exit → AFr → AHeap → Prop} (hkl : H.blk lb = some (.cells (fl i16 ks) 1)) (hcc : ks.length ≤ c') (hlen : ks.length ≤ 4194304) (hL : -32768 ≤ L ∧ L ≤ 32767) (hv : okRope L ks) (h1 : 0 < k) (h2 : k + 1 < ks.length) (hx : ks[k]? = some x) (hp : ∀ c fr G, ¬ Q (.panic c) fr G) (hfin : ∀ fr G, q9_J0 L ks lb c' k x H fr G → Q .normal fr G) : ∀ fr G, q9_J23 L ks lb c' k x H fr G → AA Try.prog ops_q9 Q 7 q9_l41 fr G := by
  have hlt0 := AHeap.lt hkl
  have ⟨v1, v2, v3, v4, v5, v6, v7⟩ := hv
  have bx := hv.bnd hx
  have hcl := cutB_len ks k x
  have htl : (ks.take (k + 1)).length = k + 1 := by simp; omega
  have hdl : (ks.drop k).length = ks.length - k := by simp
  rintro fr G ⟨get, rfl, b10, hk0, hk1, hk2, hk3, hk4, hn, hl10, hu10, hc10, g4, g5, g8, g44, g49, g55, g59, g10⟩
  refine aa_slot (d := 4) (v := .pointer (some ⟨H.next + 1, 0, none⟩)) g4 ?_
  refine aa_slot (d := 5) (v := .pointer (some ⟨H.next + 2, 0, none⟩)) g5 ?_
  refine aa_slot (d := 8) (v := .int .i16 x) g8 ?_
  refine aa_slot (d := 44) (v := .int .i16 x) g44 ?_
  refine aa_slot (d := 49) (v := .slice (some ⟨lb, 0, none⟩) (k + 1) (k + 1 + 1)) g49 ?_
  refine aa_slot (d := 55) (v := .int .i16 (L - x)) g55 ?_
  refine aa_slot (d := 59) (v := .slice (some ⟨lb, 0 + k * 1, none⟩) (ks.length - k) (ks.length - k + 1)) g59 ?_
  refine aa_slot (d := 10) (v := .pointer (some ⟨b10, 0, none⟩)) g10 ?_
  refine aax2 (i := 6) (j := 18) (by kernel_rfl) ?_ ?_
  · exact aa_oL (listed' := q9_l42) rfl rfl rfl rfl (by kernel_rfl) (ao_calld (cloneI16n_c (l := ks.take (k + 1)) (n := k + 1) (Sl.part (i := 0) i16_len (by exact HLp) rfl rfl (by simp) rfl (by simp; omega)) (by omega) (by omega)) Try.call26 rfl rfl) (aa_take (i := 7) (listed' := q9_l13) rfl (by kernel_rfl) (by kernel_rfl) (by kernel_rfl) rfl rfl rfl (by kernel_rfl) hp (apm_build (A := #[.int .i16 x, .slice (some ⟨G.next, 0, none⟩) (ks.take (k + 1)).length ((ks.take (k + 1)).length + 1)]) Try.zeroValue27 (by rfl) Try.underlying27 (by kernel_rfl) (by rfl) (by first | rfl | kernel_rfl)) (q9_st_9 hkl hcc hlen hL hv h1 h2 hx hp hfin _ _ ⟨_, rfl, G.next, b10, hk0.push (by omega) _, blk_push_old hk1, blk_push_old hk2, blk_push_old hk3, blk_push_old hk4, Nat.le_succ_of_le hn, hn, Nat.lt_succ_self _, blk_push_new _ _, hl10, Nat.lt_succ_of_lt hu10, blk_push_old hc10, (Nat.ne_of_gt hu10), rfl, rfl, rfl, rfl, rfl, rfl, rfl⟩))
  · exact aa_oL (listed' := q9_l27) rfl rfl rfl rfl (by kernel_rfl) (ao_alloca (zv27) (by rfl)) (q9_st_16 hkl hcc hlen hL hv h1 h2 hx hp hfin _ _ ⟨_, rfl, G.next, b10, hk0.push (by omega) _, blk_push_old hk1, blk_push_old hk2, blk_push_old hk3, blk_push_old hk4, Nat.le_succ_of_le hn, hn, Nat.lt_succ_self _, blk_push_new _ _, hl10, Nat.lt_succ_of_lt hu10, blk_push_old hc10, (Nat.ne_of_gt hu10), rfl, rfl, rfl, rfl, rfl, rfl, rfl, rfl, rfl⟩)
set_option maxHeartbeats 4000000 in
theorem q9_st_24 {L : Int} {ks : List Int} {lb c' k : Nat} {x : Int} {H : AHeap} {Q : Exit → AFr → AHeap → Prop} (hkl : H.blk lb = some (.cells (fl i16 ks) 1)) (hcc : ks.length ≤ c') (hlen : ks.length ≤ 4194304) (hL : -32768 ≤ L ∧ L ≤ 32767) (hv : okRope L ks) (h1 : 0 < k) (h2 : k + 1 < ks.length) (hx : ks[k]? = some x) (hp : ∀ c fr G, ¬ Q (.panic c) fr G) (hfin : ∀ fr G, q9_J0 L ks lb c' k x H fr G → Q .normal fr G) : ∀ fr G, q9_J24 L ks lb c' k x H fr G → AA Try.prog ops_q9 Q 8 q9_l43 fr G := by
  have hlt0 := AHeap.lt hkl
  have ⟨v1, v2, v3, v4, v5, v6, v7⟩ := hv
  have bx := hv.bnd hx
  have hcl := cutB_len ks k x
  have htl : (ks.take (k + 1)).length = k + 1 := by simp; omega
  have hdl : (ks.drop k).length = ks.length - k := by simp
  rintro fr G ⟨get, rfl, b50, hk0, hk1, hk2, hk3, hk4, hn, hl50, hu50, hc50, g4, g5, g8, g51, g55, g56, g58⟩
  refine aa_slot (d := 4) (v := .pointer (some ⟨H.next + 1, 0, none⟩)) g4 ?_
  refine aa_slot (d := 5) (v := .pointer (some ⟨H.next + 2, 0, none⟩)) g5 ?_
  refine aa_slot (d := 8) (v := .int .i16 x) g8 ?_
  refine aa_slot (d := 51) (v := .agg #[.int .i16 x, .slice (some ⟨b50, 0, none⟩) (ks.take (k + 1)).length ((ks.take (k + 1)).length + 1)]) g51 ?_
  refine aa_slot (d := 55) (v := .int .i16 (L - x)) g55 ?_
  refine aa_slot (d := 56) (v := .pointer (some ⟨H.next, 0 + 1, none⟩)) g56 ?_
  refine aa_slot (d := 58) (v := .int .i64 k) g58 ?_
  refine aax3 (i := 13) (j := 18) (l := 19) (by kernel_rfl) ?_ ?_ ?_
  · exact aa_oL (listed' := q9_l44) rfl rfl rfl rfl (by kernel_rfl) (ao_load (v := .slice _ _ _) Try.isAgg23 (by rfl) (by exact HLp) (by rfl) (by exact RFp)) (aa_take (i := 15) (listed' := q9_l17) rfl (by kernel_rfl) (by kernel_rfl) (by kernel_rfl) rfl rfl rfl (by kernel_rfl) hp (apm_sliceLo Try.underlying23 Try.sizeOf22 (by rfl) (by rfl) (by first | rfl | omega) (by exact HLp) (by rfl) (by exact IXp)) (q9_st_11 hkl hcc hlen hL hv h1 h2 hx hp hfin _ _ ⟨_, rfl, b50, hk0, hk1, hk2, hk3, hk4, hn, hl50, hu50, hc50, rfl, rfl, rfl, rfl, rfl, rfl⟩))
  · exact aa_oL (listed' := q9_l29) rfl rfl rfl rfl (by kernel_rfl) (ao_alloca (zv27) (by rfl)) (q9_st_17 hkl hcc hlen hL hv h1 h2 hx hp hfin _ _ ⟨_, rfl, b50, G.next, hk0.push (by omega) _, blk_push_old hk1, blk_push_old hk2, blk_push_old hk3, blk_push_old hk4, Nat.le_succ_of_le hn, hl50, Nat.lt_succ_of_lt hu50, blk_push_old hc50, hn, Nat.lt_succ_self _, blk_push_new _ _, Nat.ne_of_lt hu50, rfl, rfl, rfl, rfl, rfl, rfl, rfl, rfl⟩)
  · exact aa_oL (listed' := q9_l31) rfl rfl rfl rfl (by kernel_rfl) (ao_alloca (zv27) (by rfl)) (q9_st_18 hkl hcc hlen hL hv h1 h2 hx hp hfin _ _ ⟨_, rfl, b50, G.next, hk0.push (by omega) _, blk_push_old hk1, blk_push_old hk2, blk_push_old hk3, blk_push_old hk4, Nat.le_succ_of_le hn, hl50, Nat.lt_succ_of_lt hu50, blk_push_old hc50, hn, Nat.lt_succ_self _, blk_push_new _ _, Nat.ne_of_lt hu50, rfl, rfl, rfl, rfl, rfl, rfl, rfl, rfl⟩)
set_option maxHeartbeats 4000000 in
theorem q9_st_25 {L : Int} {ks : List Int} {lb c' k : Nat} {x : Int} {H : AHeap} {Q : Exit → AFr → AHeap → Prop} (hkl : H.blk lb = some (.cells (fl i16 ks) 1)) (hcc : ks.length ≤ c') (hlen : ks.length ≤ 4194304) (hL : -32768 ≤ L ∧ L ≤ 32767) (hv : okRope L ks) (h1 : 0 < k) (h2 : k + 1 < ks.length) (hx : ks[k]? = some x) (hp : ∀ c fr G, ¬ Q (.panic c) fr G) (hfin : ∀ fr G, q9_J0 L ks lb c' k x H fr G → Q .normal fr G) : ∀ fr G, q9_J25 L ks lb c' k x H fr G → AA Try.prog ops_q9 Q 8 q9_l45 fr G := by
  have hlt0 := AHeap.lt hkl
  have ⟨v1, v2, v3, v4, v5, v6, v7⟩ := hv
  have bx := hv.bnd hx
  have hcl := cutB_len ks k x
  have htl : (ks.take (k + 1)).length = k + 1 := by simp; omega
  have hdl : (ks.drop k).length = ks.length - k := by simp
  rintro fr G ⟨get, rfl, b50, hk0, hk1, hk2, hk3, hk4, hn, hl50, hu50, hc50, g4, g5, g8, g51, g52, g54, g59⟩
  refine aa_slot (d := 4) (v := .pointer (some ⟨H.next + 1, 0, none⟩)) g4 ?_
  refine aa_slot (d := 5) (v := .pointer (some ⟨H.next + 2, 0, none⟩)) g5 ?_
  refine aa_slot (d := 8) (v := .int .i16 x) g8 ?_
  refine aa_slot (d := 51) (v := .agg #[.int .i16 x, .slice (some ⟨b50, 0, none⟩) (ks.take (k + 1)).length ((ks.take (k + 1)).length + 1)]) g51 ?_
  refine aa_slot (d := 52) (v := .pointer (some ⟨H.next, 0 + 0, none⟩)) g52 ?_
  refine aa_slot (d := 54) (v := .int .i16 x) g54 ?_
  refine aa_slot (d := 59) (v := .slice (some ⟨lb, 0 + k * 1, none⟩) (ks.length - k) (ks.length - k + 1)) g59 ?_
  refine aax4 (i := 9) (j := 16) (l := 18) (o := 19) (by kernel_rfl) ?_ ?_ ?_ ?_
  · exact aa_oL (listed' := q9_l46) rfl rfl rfl rfl (by kernel_rfl) (ao_load (v := .int _ _) Try.isAgg22 (by rfl) (by exact HLp) (by rfl) (by exact RFp)) (aa_take (i := 11) (listed' := q9_l17) rfl (by kernel_rfl) (by kernel_rfl) (by kernel_rfl) rfl rfl rfl (by kernel_rfl) hp ((apm_sub rfl rfl).val (nw_i16 BDp BDp)) (q9_st_11 hkl hcc hlen hL hv h1 h2 hx hp hfin _ _ ⟨_, rfl, b50, hk0, hk1, hk2, hk3, hk4, hn, hl50, hu50, hc50, rfl, rfl, rfl, rfl, rfl, rfl⟩))
  · exact aa_oL (listed' := q9_l33) rfl rfl rfl rfl (by kernel_rfl) (ao_calld (cloneI16n_c (l := ks.drop k) (n := ks.length - k) (Sl.part (i := k) i16_len (by exact HLp) rfl rfl (by omega) (List.take_of_length_le (by omega)) (by omega)) (by omega) (by omega)) Try.call26 rfl rfl) (q9_st_19 hkl hcc hlen hL hv h1 h2 hx hp hfin _ _ ⟨_, rfl, b50, G.next, hk0.push (by omega) _, blk_push_old hk1, blk_push_old hk2, blk_push_old hk3, blk_push_old hk4, Nat.le_succ_of_le hn, hl50, Nat.lt_succ_of_lt hu50, blk_push_old hc50, hn, Nat.lt_succ_self _, blk_push_new _ _, Nat.ne_of_lt hu50, rfl, rfl, rfl, rfl, rfl, rfl, rfl⟩)
  · exact aa_oL (listed' := q9_l35) rfl rfl rfl rfl (by kernel_rfl) (ao_alloca (zv27) (by rfl)) (q9_st_20 hkl hcc hlen hL hv h1 h2 hx hp hfin _ _ ⟨_, rfl, b50, G.next, hk0.push (by omega) _, blk_push_old hk1, blk_push_old hk2, blk_push_old hk3, blk_push_old hk4, Nat.le_succ_of_le hn, hl50, Nat.lt_succ_of_lt hu50, blk_push_old hc50, hn, Nat.lt_succ_self _, blk_push_new _ _, Nat.ne_of_lt hu50, rfl, rfl, rfl, rfl, rfl, rfl, rfl, rfl⟩)
  · exact aa_oL (listed' := q9_l37) rfl rfl rfl rfl (by kernel_rfl) (ao_alloca (zv27) (by rfl)) (q9_st_21 hkl hcc hlen hL hv h1 h2 hx hp hfin _ _ ⟨_, rfl, b50, G.next, hk0.push (by omega) _, blk_push_old hk1, blk_push_old hk2, blk_push_old hk3, blk_push_old hk4, Nat.le_succ_of_le hn, hl50, Nat.lt_succ_of_lt hu50, blk_push_old hc50, hn, Nat.lt_succ_self _, blk_push_new _ _, Nat.ne_of_lt hu50, rfl, rfl, rfl, rfl, rfl, rfl, rfl, rfl⟩)
set_option maxHeartbeats 4000000 in
theorem q9_st_26 {L : Int} {ks : List Int} {lb c' k : Nat} {x : Int} {H : AHeap} {Q : Exit → AFr → AHeap → Prop} (hkl : H.blk lb = some (.cells (fl i16 ks) 1)) (hcc : ks.length ≤ c') (hlen : ks.length ≤ 4194304) (hL : -32768 ≤ L ∧ L ≤ 32767) (hv : okRope L ks) (h1 : 0 < k) (h2 : k + 1 < ks.length) (hx : ks[k]? = some x) (hp : ∀ c fr G, ¬ Q (.panic c) fr G) (hfin : ∀ fr G, q9_J0 L ks lb c' k x H fr G → Q .normal fr G) : ∀ fr G, q9_J26 L ks lb c' k x H fr G → AA Try.prog ops_q9 Q 8 q9_l47 fr G := by
  have hlt0 := AHeap.lt hkl
  have ⟨v1, v2, v3, v4, v5, v6, v7⟩ := hv
  have bx := hv.bnd hx
  have hcl := cutB_len ks k x
  have htl : (ks.take (k + 1)).length = k + 1 := by simp; omega
  have hdl : (ks.drop k).length = ks.length - k := by simp
  rintro fr G ⟨get, rfl, b50, b9, b10, hk0, hk1, hk2, hk3, hk4, hn, hl50, hu50, hc50, hl9, hu9, hc9, hl10, hu10, hc10, he50_9, he50_10, he9_10, g4, g5, g8, g51, g52, g54, g56, g58, g9, g10⟩
  refine aa_slot (d := 4) (v := .pointer (some ⟨H.next + 1, 0, none⟩)) g4 ?_
  refine aa_slot (d := 5) (v := .pointer (some ⟨H.next + 2, 0, none⟩)) g5 ?_
  refine aa_slot (d := 8) (v := .int .i16 x) g8 ?_
  refine aa_slot (d := 51) (v := .agg #[.int .i16 x, .slice (some ⟨b50, 0, none⟩) (ks.take (k + 1)).length ((ks.take (k + 1)).length + 1)]) g51 ?_
  refine aa_slot (d := 52) (v := .pointer (some ⟨H.next, 0 + 0, none⟩)) g52 ?_
  refine aa_slot (d := 54) (v := .int .i16 x) g54 ?_
  refine aa_slot (d := 56) (v := .pointer (some ⟨H.next, 0 + 1, none⟩)) g56 ?_
  refine aa_slot (d := 58) (v := .int .i64 k) g58 ?_
  refine aa_slot (d := 9) (v := .pointer (some ⟨b9, 0, none⟩)) g9 ?_
  refine aa_slot (d := 10) (v := .pointer (some ⟨b10, 0, none⟩)) g10 ?_
  refine aax2 (i := 9) (j := 13) (by kernel_rfl) ?_ ?_
  · exact aa_oL (listed' := q9_l48) rfl rfl rfl rfl (by kernel_rfl) (ao_load (v := .int _ _) Try.isAgg22 (by rfl) (by exact HLp) (by rfl) (by exact RFp)) (aa_take (i := 11) (listed' := q9_l19) rfl (by kernel_rfl) (by kernel_rfl) (by kernel_rfl) rfl rfl rfl (by kernel_rfl) hp ((apm_sub rfl rfl).val (nw_i16 BDp BDp)) (q9_st_12 hkl hcc hlen hL hv h1 h2 hx hp hfin _ _ ⟨_, rfl, b50, b9, b10, hk0, hk1, hk2, hk3, hk4, hn, hl50, hu50, hc50, hl9, hu9, hc9, hl10, hu10, hc10, he50_9, he50_10, he9_10, rfl, rfl, rfl, rfl, rfl, rfl, rfl, rfl, rfl⟩))
  · exact aa_oL (listed' := q9_l49) rfl rfl rfl rfl (by kernel_rfl) (ao_load (v := .slice _ _ _) Try.isAgg23 (by rfl) (by exact HLp) (by rfl) (by exact RFp)) (aa_take (i := 15) (listed' := q9_l25) rfl (by kernel_rfl) (by kernel_rfl) (by kernel_rfl) rfl rfl rfl (by kernel_rfl) hp (apm_sliceLo Try.underlying23 Try.sizeOf22 (by rfl) (by rfl) (by first | rfl | omega) (by exact HLp) (by rfl) (by exact IXp)) (q9_st_15 hkl hcc hlen hL hv h1 h2 hx hp hfin _ _ ⟨_, rfl, b50, b9, b10, hk0, hk1, hk2, hk3, hk4, hn, hl50, hu50, hc50, hl9, hu9, hc9, hl10, hu10, hc10, he50_9, he50_10, he9_10, rfl, rfl, rfl, rfl, rfl, rfl, rfl, rfl, rfl⟩))
set_option maxHeartbeats 4000000 in
theorem q9_st_27 {L : Int} {ks : List Int} {lb c' k : Nat} {x : Int} {H : AHeap} {Q : Exit → AFr → AHeap → Prop} (hkl : H.blk lb = some (.cells (fl i16 ks) 1)) (hcc : ks.length ≤ c') (hlen : ks.length ≤ 4194304) (hL : -32768 ≤ L ∧ L ≤ 32767) (hv : okRope L ks) (h1 : 0 < k) (h2 : k + 1 < ks.length) (hx : ks[k]? = some x) (hp : ∀ c fr G, ¬ Q (.panic c) fr G) (hfin : ∀ fr G, q9_J0 L ks lb c' k x H fr G → Q .normal fr G) : ∀ fr G, q9_J27 L ks lb c' k x H fr G → AA Try.prog ops_q9 Q 8 q9_l50 fr G := by
  have hlt0 := AHeap.lt hkl
  have ⟨v1, v2, v3, v4, v5, v6, v7⟩ := hv
  have bx := hv.bnd hx
  have hcl := cutB_len ks k x
  have htl : (ks.take (k + 1)).length = k + 1 := by simp; omega
  have hdl : (ks.drop k).length = ks.length - k := by simp
  rintro fr G ⟨get, rfl, hk0, hk1, hk2, hk3, hk4, hn, g4, g5, g8, g44, g49, g55, g59⟩
  refine aa_slot (d := 4) (v := .pointer (some ⟨H.next + 1, 0, none⟩)) g4 ?_
  refine aa_slot (d := 5) (v := .pointer (some ⟨H.next + 2, 0, none⟩)) g5 ?_
  refine aa_slot (d := 8) (v := .int .i16 x) g8 ?_
  refine aa_slot (d := 44) (v := .int .i16 x) g44 ?_
  refine aa_slot (d := 49) (v := .slice (some ⟨lb, 0, none⟩) (k + 1) (k + 1 + 1)) g49 ?_
  refine aa_slot (d := 55) (v := .int .i16 (L - x)) g55 ?_
  refine aa_slot (d := 59) (v := .slice (some ⟨lb, 0 + k * 1, none⟩) (ks.length - k) (ks.length - k + 1)) g59 ?_
  refine aax3 (i := 6) (j := 18) (l := 19) (by kernel_rfl) ?_ ?_ ?_
  · exact aa_oL (listed' := q9_l51) rfl rfl rfl rfl (by kernel_rfl) (ao_calld (cloneI16n_c (l := ks.take (k + 1)) (n := k + 1) (Sl.part (i := 0) i16_len (by exact HLp) rfl rfl (by simp) rfl (by simp; omega)) (by omega) (by omega)) Try.call26 rfl rfl) (aa_take (i := 7) (listed' := q9_l17) rfl (by kernel_rfl) (by kernel_rfl) (by kernel_rfl) rfl rfl rfl (by kernel_rfl) hp (apm_build (A := #[.int .i16 x, .slice (some ⟨G.next, 0, none⟩) (ks.take (k + 1)).length ((ks.take (k + 1)).length + 1)]) Try.zeroValue27 (by rfl) Try.underlying27 (by kernel_rfl) (by rfl) (by first | rfl | kernel_rfl)) (q9_st_11 hkl hcc hlen hL hv h1 h2 hx hp hfin _ _ ⟨_, rfl, G.next, hk0.push (by omega) _, blk_push_old hk1, blk_push_old hk2, blk_push_old hk3, blk_push_old hk4, Nat.le_succ_of_le hn, hn, Nat.lt_succ_self _, blk_push_new _ _, rfl, rfl, rfl, rfl, rfl, rfl⟩))
  · exact aa_oL (listed' := q9_l39) rfl rfl rfl rfl (by kernel_rfl) (ao_alloca (zv27) (by rfl)) (q9_st_22 hkl hcc hlen hL hv h1 h2 hx hp hfin _ _ ⟨_, rfl, G.next, hk0.push (by omega) _, blk_push_old hk1, blk_push_old hk2, blk_push_old hk3, blk_push_old hk4, Nat.le_succ_of_le hn, hn, Nat.lt_succ_self _, blk_push_new _ _, rfl, rfl, rfl, rfl, rfl, rfl, rfl, rfl⟩)
  · exact aa_oL (listed' := q9_l41) rfl rfl rfl rfl (by kernel_rfl) (ao_alloca (zv27) (by rfl)) (q9_st_23 hkl hcc hlen hL hv h1 h2 hx hp hfin _ _ ⟨_, rfl, G.next, hk0.push (by omega) _, blk_push_old hk1, blk_push_old hk2, blk_push_old hk3, blk_push_old hk4, Nat.le_succ_of_le hn, hn, Nat.lt_succ_self _, blk_push_new _ _, rfl, rfl, rfl, rfl, rfl, rfl, rfl, rfl⟩)
set_option maxHeartbeats 4000000 in
theorem q9_st_28 {L : Int} {ks : List Int} {lb c' k : Nat} {x : Int} {H : AHeap} {Q : Exit → AFr → AHeap → Prop} (hkl : H.blk lb = some (.cells (fl i16 ks) 1)) (hcc : ks.length ≤ c') (hlen : ks.length ≤ 4194304) (hL : -32768 ≤ L ∧ L ≤ 32767) (hv : okRope L ks) (h1 : 0 < k) (h2 : k + 1 < ks.length) (hx : ks[k]? = some x) (hp : ∀ c fr G, ¬ Q (.panic c) fr G) (hfin : ∀ fr G, q9_J0 L ks lb c' k x H fr G → Q .normal fr G) : ∀ fr G, q9_J28 L ks lb c' k x H fr G → AA Try.prog ops_q9 Q 8 q9_l52 fr G := by
  have hlt0 := AHeap.lt hkl
  have ⟨v1, v2, v3, v4, v5, v6, v7⟩ := hv
  have bx := hv.bnd hx
  have hcl := cutB_len ks k x
  have htl : (ks.take (k + 1)).length = k + 1 := by simp; omega
  have hdl : (ks.drop k).length = ks.length - k := by simp
  rintro fr G ⟨get, rfl, b9, b10, hk0, hk1, hk2, hk3, hk4, hn, hl9, hu9, hc9, hl10, hu10, hc10, he9_10, g4, g5, g8, g44, g49, g55, g56, g58, g9, g10⟩
  refine aa_slot (d := 4) (v := .pointer (some ⟨H.next + 1, 0, none⟩)) g4 ?_
  refine aa_slot (d := 5) (v := .pointer (some ⟨H.next + 2, 0, none⟩)) g5 ?_
  refine aa_slot (d := 8) (v := .int .i16 x) g8 ?_
  refine aa_slot (d := 44) (v := .int .i16 x) g44 ?_
  refine aa_slot (d := 49) (v := .slice (some ⟨lb, 0, none⟩) (k + 1) (k + 1 + 1)) g49 ?_
  refine aa_slot (d := 55) (v := .int .i16 (L - x)) g55 ?_
  refine aa_slot (d := 56) (v := .pointer (some ⟨H.next, 0 + 1, none⟩)) g56 ?_
  refine aa_slot (d := 58) (v := .int .i64 k) g58 ?_
  refine aa_slot (d := 9) (v := .pointer (some ⟨b9, 0, none⟩)) g9 ?_
  refine aa_slot (d := 10) (v := .pointer (some ⟨b10, 0, none⟩)) g10 ?_
  refine aax2 (i := 6) (j := 13) (by kernel_rfl) ?_ ?_
  · exact aa_oL (listed' := q9_l53) rfl rfl rfl rfl (by kernel_rfl) (ao_calld (cloneI16n_c (l := ks.take (k + 1)) (n := k + 1) (Sl.part (i := 0) i16_len (by exact HLp) rfl rfl (by simp) rfl (by simp; omega)) (by omega) (by omega)) Try.call26 rfl rfl) (aa_take (i := 7) (listed' := q9_l19) rfl (by kernel_rfl) (by kernel_rfl) (by kernel_rfl) rfl rfl rfl (by kernel_rfl) hp (apm_build (A := #[.int .i16 x, .slice (some ⟨G.next, 0, none⟩) (ks.take (k + 1)).length ((ks.take (k + 1)).length + 1)]) Try.zeroValue27 (by rfl) Try.underlying27 (by kernel_rfl) (by rfl) (by first | rfl | kernel_rfl)) (q9_st_12 hkl hcc hlen hL hv h1 h2 hx hp hfin _ _ ⟨_, rfl, G.next, b9, b10, hk0.push (by omega) _, blk_push_old hk1, blk_push_old hk2, blk_push_old hk3, blk_push_old hk4, Nat.le_succ_of_le hn, hn, Nat.lt_succ_self _, blk_push_new _ _, hl9, Nat.lt_succ_of_lt hu9, blk_push_old hc9, hl10, Nat.lt_succ_of_lt hu10, blk_push_old hc10, (Nat.ne_of_gt hu9), (Nat.ne_of_gt hu10), he9_10, rfl, rfl, rfl, rfl, rfl, rfl, rfl, rfl, rfl⟩))
  · exact aa_oL (listed' := q9_l54) rfl rfl rfl rfl (by kernel_rfl) (ao_load (v := .slice _ _ _) Try.isAgg23 (by rfl) (by exact HLp) (by rfl) (by exact RFp)) (aa_take (i := 15) (listed' := q9_l27) rfl (by kernel_rfl) (by kernel_rfl) (by kernel_rfl) rfl rfl rfl (by kernel_rfl) hp (apm_sliceLo Try.underlying23 Try.sizeOf22 (by rfl) (by rfl) (by first | rfl | omega) (by exact HLp) (by rfl) (by exact IXp)) (q9_st_16 hkl hcc hlen hL hv h1 h2 hx hp hfin _ _ ⟨_, rfl, b9, b10, hk0, hk1, hk2, hk3, hk4, hn, hl9, hu9, hc9, hl10, hu10, hc10, he9_10, rfl, rfl, rfl, rfl, rfl, rfl, rfl, rfl, rfl⟩))
set_option maxHeartbeats 4000000 in
theorem q9_st_29 {L : Int} {ks : List Int} {lb c' k : Nat} {x : Int} {H : AHeap} {Q : Exit → AFr → AHeap → Prop} (hkl : H.blk lb = some (.cells (fl i16 ks) 1)) (hcc : ks.length ≤ c') (hlen : ks.length ≤ 4194304) (hL : -32768 ≤ L ∧ L ≤ 32767) (hv : okRope L ks) (h1 : 0 < k) (h2 : k + 1 < ks.length) (hx : ks[k]? = some x) (hp : ∀ c fr G, ¬ Q (.panic c) fr G) (hfin : ∀ fr G, q9_J0 L ks lb c' k x H fr G → Q .normal fr G) : ∀ fr G, q9_J29 L ks lb c' k x H fr G → AA Try.prog ops_q9 Q 8 q9_l55 fr G := by
  have hlt0 := AHeap.lt hkl
  have ⟨v1, v2, v3, v4, v5, v6, v7⟩ := hv
  have bx := hv.bnd hx
  have hcl := cutB_len ks k x
  have htl : (ks.take (k + 1)).length = k + 1 := by simp; omega
  have hdl : (ks.drop k).length = ks.length - k := by simp
  rintro fr G ⟨get, rfl, b9, b10, hk0, hk1, hk2, hk3, hk4, hn, hl9, hu9, hc9, hl10, hu10, hc10, he9_10, g4, g5, g8, g44, g49, g52, g54, g59, g9, g10⟩
  refine aa_slot (d := 4) (v := .pointer (some ⟨H.next + 1, 0, none⟩)) g4 ?_
  refine aa_slot (d := 5) (v := .pointer (some ⟨H.next + 2, 0, none⟩)) g5 ?_
  refine aa_slot (d := 8) (v := .int .i16 x) g8 ?_
  refine aa_slot (d := 44) (v := .int .i16 x) g44 ?_
  refine aa_slot (d := 49) (v := .slice (some ⟨lb, 0, none⟩) (k + 1) (k + 1 + 1)) g49 ?_
  refine aa_slot (d := 52) (v := .pointer (some ⟨H.next, 0 + 0, none⟩)) g52 ?_
  refine aa_slot (d := 54) (v := .int .i16 x) g54 ?_
  refine aa_slot (d := 59) (v := .slice (some ⟨lb, 0 + k * 1, none⟩) (ks.length - k) (ks.length - k + 1)) g59 ?_
  refine aa_slot (d := 9) (v := .pointer (some ⟨b9, 0, none⟩)) g9 ?_
  refine aa_slot (d := 10) (v := .pointer (some ⟨b10, 0, none⟩)) g10 ?_
  refine aax2 (i := 6) (j := 9) (by kernel_rfl) ?_ ?_
  · exact aa_oL (listed' := q9_l56) rfl rfl rfl rfl (by kernel_rfl) (ao_calld (cloneI16n_c (l := ks.take (k + 1)) (n := k + 1) (Sl.part (i := 0) i16_len (by exact HLp) rfl rfl (by simp) rfl (by simp; omega)) (by omega) (by omega)) Try.call26 rfl rfl) (aa_take (i := 7) (listed' := q9_l25) rfl (by kernel_rfl) (by kernel_rfl) (by kernel_rfl) rfl rfl rfl (by kernel_rfl) hp (apm_build (A := #[.int .i16 x, .slice (some ⟨G.next, 0, none⟩) (ks.take (k + 1)).length ((ks.take (k + 1)).length + 1)]) Try.zeroValue27 (by rfl) Try.underlying27 (by kernel_rfl) (by rfl) (by first | rfl | kernel_rfl)) (q9_st_15 hkl hcc hlen hL hv h1 h2 hx hp hfin _ _ ⟨_, rfl, G.next, b9, b10, hk0.push (by omega) _, blk_push_old hk1, blk_push_old hk2, blk_push_old hk3, blk_push_old hk4, Nat.le_succ_of_le hn, hn, Nat.lt_succ_self _, blk_push_new _ _, hl9, Nat.lt_succ_of_lt hu9, blk_push_old hc9, hl10, Nat.lt_succ_of_lt hu10, blk_push_old hc10, (Nat.ne_of_gt hu9), (Nat.ne_of_gt hu10), he9_10, rfl, rfl, rfl, rfl, rfl, rfl, rfl, rfl, rfl⟩))
  · exact aa_oL (listed' := q9_l57) rfl rfl rfl rfl (by kernel_rfl) (ao_load (v := .int _ _) Try.isAgg22 (by rfl) (by exact HLp) (by rfl) (by exact RFp)) (aa_take (i := 11) (listed' := q9_l27) rfl (by kernel_rfl) (by kernel_rfl) (by kernel_rfl) rfl rfl rfl (by kernel_rfl) hp ((apm_sub rfl rfl).val (nw_i16 BDp BDp)) (q9_st_16 hkl hcc hlen hL hv h1 h2 hx hp hfin _ _ ⟨_, rfl, b9, b10, hk0, hk1, hk2, hk3, hk4, hn, hl9, hu9, hc9, hl10, hu10, hc10, he9_10, rfl, rfl, rfl, rfl, rfl, rfl, rfl, rfl, rfl⟩))
set_option maxHeartbeats 4000000 in
theorem q9_st_30 {L : Int} {ks : List Int} {lb c' k : Nat} {x : Int} {H : AHeap} {Q : Exit → AFr → AHeap → Prop} (hkl : H.blk lb = some (.cells (fl i16 ks) 1)) (hcc : ks.length ≤ c') (hlen : ks.length ≤ 4194304) (hL : -32768 ≤ L ∧ L ≤ 32767) (hv : okRope L ks) (h1 : 0 < k) (h2 : k + 1 < ks.length) (hx : ks[k]? = some x) (hp : ∀ c fr G, ¬ Q (.panic c) fr G) (hfin : ∀ fr G, q9_J0 L ks lb c' k x H fr G → Q .normal fr G) : ∀ fr G, q9_J30 L ks lb c' k x H fr G → AA Try.prog ops_q9 Q 8 q9_l58 fr G := by
  have hlt0 := AHeap.lt hkl
  have ⟨v1, v2, v3, v4, v5, v6, v7⟩ := hv
  have bx := hv.bnd hx
  have hcl := cutB_len ks k x
  have htl : (ks.take (k + 1)).length = k + 1 := by simp; omega
  have hdl : (ks.drop k).length = ks.length - k := by simp
  rintro fr G ⟨get, rfl, b9, b10, hk0, hk1, hk2, hk3, hk4, hn, hl9, hu9, hc9, hl10, hu10, hc10, he9_10, g4, g5, g8, g44, g45, g48, g55, g59, g9, g10⟩
  refine aa_slot (d := 4) (v := .pointer (some ⟨H.next + 1, 0, none⟩)) g4 ?_
  refine aa_slot (d := 5) (v := .pointer (some ⟨H.next + 2, 0, none⟩)) g5 ?_
  refine aa_slot (d := 8) (v := .int .i16 x) g8 ?_
  refine aa_slot (d := 44) (v := .int .i16 x) g44 ?_
  refine aa_slot (d := 45) (v := .pointer (some ⟨H.next, 0 + 1, none⟩)) g45 ?_
  refine aa_slot (d := 48) (v := .int .i64 ((k + 1 : Nat) : Int)) g48 ?_
  refine aa_slot (d := 55) (v := .int .i16 (L - x)) g55 ?_
  refine aa_slot (d := 59) (v := .slice (some ⟨lb, 0 + k * 1, none⟩) (ks.length - k) (ks.length - k + 1)) g59 ?_
  refine aa_slot (d := 9) (v := .pointer (some ⟨b9, 0, none⟩)) g9 ?_
  refine aa_slot (d := 10) (v := .pointer (some ⟨b10, 0, none⟩)) g10 ?_
  refine aax1 (i := 2) (by kernel_rfl) ?_
  · exact aa_oL (listed' := q9_l59) rfl rfl rfl rfl (by kernel_rfl) (ao_load (v := .slice _ _ _) Try.isAgg23 (by rfl) (by exact HLp) (by rfl) (by exact RFp)) (aa_take (i := 5) (listed' := q9_l27) rfl (by kernel_rfl) (by kernel_rfl) (by kernel_rfl) rfl rfl rfl (by kernel_rfl) hp (apm_sliceHi Try.underlying23 Try.sizeOf22 (by rfl) (by rfl) (by first | rfl | omega) (by exact HLp) (by rfl) (by exact IXp)) (q9_st_16 hkl hcc hlen hL hv h1 h2 hx hp hfin _ _ ⟨_, rfl, b9, b10, hk0, hk1, hk2, hk3, hk4, hn, hl9, hu9, hc9, hl10, hu10, hc10, he9_10, rfl, rfl, rfl, rfl, rfl, rfl, rfl, rfl, rfl⟩))
set_option maxHeartbeats 4000000 in
theorem q9_st_31 {L : Int} {ks : List Int} {lb c' k : Nat} {x : Int} {H : AHeap} {Q : Exit → AFr → AHeap → Prop} (hkl : H.blk lb = some (.cells (fl i16 ks) 1)) (hcc : ks.length ≤ c') (hlen : ks.length ≤ 4194304) (hL : -32768 ≤ L ∧ L ≤ 32767) (hv : okRope L ks) (h1 : 0 < k) (h2 : k + 1 < ks.length) (hx : ks[k]? = some x) (hp : ∀ c fr G, ¬ Q (.panic c) fr G) (hfin : ∀ fr G, q9_J0 L ks lb c' k x H fr G → Q .normal fr G) : ∀ fr G, q9_J31 L ks lb c' k x H fr G → AA Try.prog ops_q9 Q 9 q9_l60 fr G := by
  have hlt0 := AHeap.lt hkl
  have ⟨v1, v2, v3, v4, v5, v6, v7⟩ := hv
  have bx := hv.bnd hx
  have hcl := cutB_len ks k x
  have htl : (ks.take (k + 1)).length = k + 1 := by simp; omega
  have hdl : (ks.drop k).length = ks.length - k := by simp
  rintro fr G ⟨get, rfl, b50, b9, hk0, hk1, hk2, hk3, hk4, hn, hl50, hu50, hc50, hl9, hu9, hc9, he50_9, g4, g5, g8, g51, g52, g54, g56, g58, g9⟩
  refine aa_slot (d := 4) (v := .pointer (some ⟨H.next + 1, 0, none⟩)) g4 ?_
  refine aa_slot (d := 5) (v := .pointer (some ⟨H.next + 2, 0, none⟩)) g5 ?_
  refine aa_slot (d := 8) (v := .int .i16 x) g8 ?_
  refine aa_slot (d := 51) (v := .agg #[.int .i16 x, .slice (some ⟨b50, 0, none⟩) (ks.take (k + 1)).length ((ks.take (k + 1)).length + 1)]) g51 ?_
  refine aa_slot (d := 52) (v := .pointer (some ⟨H.next, 0 + 0, none⟩)) g52 ?_
  refine aa_slot (d := 54) (v := .int .i16 x) g54 ?_
  refine aa_slot (d := 56) (v := .pointer (some ⟨H.next, 0 + 1, none⟩)) g56 ?_
  refine aa_slot (d := 58) (v := .int .i64 k) g58 ?_
  refine aa_slot (d := 9) (v := .pointer (some ⟨b9, 0, none⟩)) g9 ?_
  refine aax3 (i := 9) (j := 13) (l := 19) (by kernel_rfl) ?_ ?_ ?_
  · exact aa_oL (listed' := q9_l61) rfl rfl rfl rfl (by kernel_rfl) (ao_load (v := .int _ _) Try.isAgg22 (by rfl) (by exact HLp) (by rfl) (by exact RFp)) (aa_take (i := 11) (listed' := q9_l29) rfl (by kernel_rfl) (by kernel_rfl) (by kernel_rfl) rfl rfl rfl (by kernel_rfl) hp ((apm_sub rfl rfl).val (nw_i16 BDp BDp)) (q9_st_17 hkl hcc hlen hL hv h1 h2 hx hp hfin _ _ ⟨_, rfl, b50, b9, hk0, hk1, hk2, hk3, hk4, hn, hl50, hu50, hc50, hl9, hu9, hc9, he50_9, rfl, rfl, rfl, rfl, rfl, rfl, rfl, rfl⟩))
  · exact aa_oL (listed' := q9_l62) rfl rfl rfl rfl (by kernel_rfl) (ao_load (v := .slice _ _ _) Try.isAgg23 (by rfl) (by exact HLp) (by rfl) (by exact RFp)) (aa_take (i := 15) (listed' := q9_l35) rfl (by kernel_rfl) (by kernel_rfl) (by kernel_rfl) rfl rfl rfl (by kernel_rfl) hp (apm_sliceLo Try.underlying23 Try.sizeOf22 (by rfl) (by rfl) (by first | rfl | omega) (by exact HLp) (by rfl) (by exact IXp)) (q9_st_20 hkl hcc hlen hL hv h1 h2 hx hp hfin _ _ ⟨_, rfl, b50, b9, hk0, hk1, hk2, hk3, hk4, hn, hl50, hu50, hc50, hl9, hu9, hc9, he50_9, rfl, rfl, rfl, rfl, rfl, rfl, rfl, rfl⟩))
  · exact aa_oL (listed' := q9_l47) rfl rfl rfl rfl (by kernel_rfl) (ao_alloca (zv27) (by rfl)) (q9_st_26 hkl hcc hlen hL hv h1 h2 hx hp hfin _ _ ⟨_, rfl, b50, b9, G.next, hk0.push (by omega) _, blk_push_old hk1, blk_push_old hk2, blk_push_old hk3, blk_push_old hk4, Nat.le_succ_of_le hn, hl50, Nat.lt_succ_of_lt hu50, blk_push_old hc50, hl9, Nat.lt_succ_of_lt hu9, blk_push_old hc9, hn, Nat.lt_succ_self _, blk_push_new _ _, he50_9, Nat.ne_of_lt hu50, Nat.ne_of_lt hu9, rfl, rfl, rfl, rfl, rfl, rfl, rfl, rfl, rfl, rfl⟩)
set_option maxHeartbeats 4000000 in
theorem q9_st_32 {L : Int} {ks : List Int} {lb c' k : Nat} {x : Int} {H : AHeap} {Q : Exit → AFr → AHeap → Prop} (hkl : H.blk lb = some (.cells (fl i16 ks) 1)) (hcc : ks.length ≤ c') (hlen : ks.length ≤ 4194304) (hL : -32768 ≤ L ∧ L ≤ 32767) (hv : okRope L ks) (h1 : 0 < k) (h2 : k + 1 < ks.length) (hx : ks[k]? = some x) (hp : ∀ c fr G, ¬ Q (.panic c) fr G) (hfin : ∀ fr G, q9_J0 L ks lb c' k x H fr G → Q .normal fr G) : ∀ fr G, q9_J32 L ks lb c' k x H fr G → AA Try.prog ops_q9 Q 9 q9_l63 fr G := by
  have hlt0 := AHeap.lt hkl
  have ⟨v1, v2, v3, v4, v5, v6, v7⟩ := hv
  have bx := hv.bnd hx
  have hcl := cutB_len ks k x
  have htl : (ks.take (k + 1)).length = k + 1 := by simp; omega
  have hdl : (ks.drop k).length = ks.length - k := by simp
  rintro fr G ⟨get, rfl, b50, b10, hk0, hk1, hk2, hk3, hk4, hn, hl50, hu50, hc50, hl10, hu10, hc10, he50_10, g4, g5, g8, g51, g52, g54, g56, g58, g10⟩
  refine aa_slot (d := 4) (v := .pointer (some ⟨H.next + 1, 0, none⟩)) g4 ?_
  refine aa_slot (d := 5) (v := .pointer (some ⟨H.next + 2, 0, none⟩)) g5 ?_
  refine aa_slot (d := 8) (v := .int .i16 x) g8 ?_
  refine aa_slot (d := 51) (v := .agg #[.int .i16 x, .slice (some ⟨b50, 0, none⟩) (ks.take (k + 1)).length ((ks.take (k + 1)).length + 1)]) g51 ?_
  refine aa_slot (d := 52) (v := .pointer (some ⟨H.next, 0 + 0, none⟩)) g52 ?_
  refine aa_slot (d := 54) (v := .int .i16 x) g54 ?_
  refine aa_slot (d := 56) (v := .pointer (some ⟨H.next, 0 + 1, none⟩)) g56 ?_
  refine aa_slot (d := 58) (v := .int .i64 k) g58 ?_
  refine aa_slot (d := 10) (v := .pointer (some ⟨b10, 0, none⟩)) g10 ?_
  refine aax3 (i := 9) (j := 13) (l := 18) (by kernel_rfl) ?_ ?_ ?_
  · exact aa_oL (listed' := q9_l64) rfl rfl rfl rfl (by kernel_rfl) (ao_load (v := .int _ _) Try.isAgg22 (by rfl) (by exact HLp) (by rfl) (by exact RFp)) (aa_take (i := 11) (listed' := q9_l31) rfl (by kernel_rfl) (by kernel_rfl) (by kernel_rfl) rfl rfl rfl (by kernel_rfl) hp ((apm_sub rfl rfl).val (nw_i16 BDp BDp)) (q9_st_18 hkl hcc hlen hL hv h1 h2 hx hp hfin _ _ ⟨_, rfl, b50, b10, hk0, hk1, hk2, hk3, hk4, hn, hl50, hu50, hc50, hl10, hu10, hc10, he50_10, rfl, rfl, rfl, rfl, rfl, rfl, rfl, rfl⟩))
  · exact aa_oL (listed' := q9_l65) rfl rfl rfl rfl (by kernel_rfl) (ao_load (v := .slice _ _ _) Try.isAgg23 (by rfl) (by exact HLp) (by rfl) (by exact RFp)) (aa_take (i := 15) (listed' := q9_l37) rfl (by kernel_rfl) (by kernel_rfl) (by kernel_rfl) rfl rfl rfl (by kernel_rfl) hp (apm_sliceLo Try.underlying23 Try.sizeOf22 (by rfl) (by rfl) (by first | rfl | omega) (by exact HLp) (by rfl) (by exact IXp)) (q9_st_21 hkl hcc hlen hL hv h1 h2 hx hp hfin _ _ ⟨_, rfl, b50, b10, hk0, hk1, hk2, hk3, hk4, hn, hl50, hu50, hc50, hl10, hu10, hc10, he50_10, rfl, rfl, rfl, rfl, rfl, rfl, rfl, rfl⟩))
  · exact aa_oL (listed' := q9_l47) rfl rfl rfl rfl (by kernel_rfl) (ao_alloca (zv27) (by rfl)) (q9_st_26 hkl hcc hlen hL hv h1 h2 hx hp hfin _ _ ⟨_, rfl, b50, G.next, b10, hk0.push (by omega) _, blk_push_old hk1, blk_push_old hk2, blk_push_old hk3, blk_push_old hk4, Nat.le_succ_of_le hn, hl50, Nat.lt_succ_of_lt hu50, blk_push_old hc50, hn, Nat.lt_succ_self _, blk_push_new _ _, hl10, Nat.lt_succ_of_lt hu10, blk_push_old hc10, Nat.ne_of_lt hu50, he50_10, (Nat.ne_of_gt hu10), rfl, rfl, rfl, rfl, rfl, rfl, rfl, rfl, rfl, rfl⟩)
set_option maxHeartbeats 4000000 in
theorem q9_st_33 {L : Int} {ks : List Int} {lb c' k : Nat} {x : Int} {H : AHeap} {Q : Exit → AFr → AHeap → Prop} (hkl : H.blk lb = some (.cells (fl i16 ks) 1)) (hcc : ks.length ≤ c') (hlen : ks.length ≤ 4194304) (hL : -32768 ≤ L ∧ L ≤ 32767) (hv : okRope L ks) (h1 : 0 < k) (h2 : k + 1 < ks.length) (hx : ks[k]? = some x) (hp : ∀ c fr G, ¬ Q (.panic c) fr G) (hfin : ∀ fr G, q9_J0 L ks lb c' k x H fr G → Q .normal fr G) : ∀ fr G, q9_J33 L ks lb c' k x H fr G → AA Try.prog ops_q9 Q 9 q9_l66 fr G := by
  have hlt0 := AHeap.lt hkl
  have ⟨v1, v2, v3, v4, v5, v6, v7⟩ := hv
  have bx := hv.bnd hx
  have hcl := cutB_len ks k x
  have htl : (ks.take (k + 1)).length = k + 1 := by simp; omega
  have hdl : (ks.drop k).length = ks.length - k := by simp
  rintro fr G ⟨get, rfl, b9, hk0, hk1, hk2, hk3, hk4, hn, hl9, hu9, hc9, g4, g5, g8, g44, g49, g55, g56, g58, g9⟩
  refine aa_slot (d := 4) (v := .pointer (some ⟨H.next + 1, 0, none⟩)) g4 ?_
  refine aa_slot (d := 5) (v := .pointer (some ⟨H.next + 2, 0, none⟩)) g5 ?_
  refine aa_slot (d := 8) (v := .int .i16 x) g8 ?_
  refine aa_slot (d := 44) (v := .int .i16 x) g44 ?_
  refine aa_slot (d := 49) (v := .slice (some ⟨lb, 0, none⟩) (k + 1) (k + 1 + 1)) g49 ?_
  refine aa_slot (d := 55) (v := .int .i16 (L - x)) g55 ?_
  refine aa_slot (d := 56) (v := .pointer (some ⟨H.next, 0 + 1, none⟩)) g56 ?_
  refine aa_slot (d := 58) (v := .int .i64 k) g58 ?_
  refine aa_slot (d := 9) (v := .pointer (some ⟨b9, 0, none⟩)) g9 ?_
  refine aax3 (i := 6) (j := 13) (l := 19) (by kernel_rfl) ?_ ?_ ?_
  · exact aa_oL (listed' := q9_l67) rfl rfl rfl rfl (by kernel_rfl) (ao_calld (cloneI16n_c (l := ks.take (k + 1)) (n := k + 1) (Sl.part (i := 0) i16_len (by exact HLp) rfl rfl (by simp) rfl (by simp; omega)) (by omega) (by omega)) Try.call26 rfl rfl) (aa_take (i := 7) (listed' := q9_l29) rfl (by kernel_rfl) (by kernel_rfl) (by kernel_rfl) rfl rfl rfl (by kernel_rfl) hp (apm_build (A := #[.int .i16 x, .slice (some ⟨G.next, 0, none⟩) (ks.take (k + 1)).length ((ks.take (k + 1)).length + 1)]) Try.zeroValue27 (by rfl) Try.underlying27 (by kernel_rfl) (by rfl) (by first | rfl | kernel_rfl)) (q9_st_17 hkl hcc hlen hL hv h1 h2 hx hp hfin _ _ ⟨_, rfl, G.next, b9, hk0.push (by omega) _, blk_push_old hk1, blk_push_old hk2, blk_push_old hk3, blk_push_old hk4, Nat.le_succ_of_le hn, hn, Nat.lt_succ_self _, blk_push_new _ _, hl9, Nat.lt_succ_of_lt hu9, blk_push_old hc9, (Nat.ne_of_gt hu9), rfl, rfl, rfl, rfl, rfl, rfl, rfl, rfl⟩))
  · exact aa_oL (listed' := q9_l68) rfl rfl rfl rfl (by kernel_rfl) (ao_load (v := .slice _ _ _) Try.isAgg23 (by rfl) (by exact HLp) (by rfl) (by exact RFp)) (aa_take (i := 15) (listed' := q9_l39) rfl (by kernel_rfl) (by kernel_rfl) (by kernel_rfl) rfl rfl rfl (by kernel_rfl) hp (apm_sliceLo Try.underlying23 Try.sizeOf22 (by rfl) (by rfl) (by first | rfl | omega) (by exact HLp) (by rfl) (by exact IXp)) (q9_st_22 hkl hcc hlen hL hv h1 h2 hx hp hfin _ _ ⟨_, rfl, b9, hk0, hk1, hk2, hk3, hk4, hn, hl9, hu9, hc9, rfl, rfl, rfl, rfl, rfl, rfl, rfl, rfl⟩))
  · exact aa_oL (listed' := q9_l52) rfl rfl rfl rfl (by kernel_rfl) (ao_alloca (zv27) (by rfl)) (q9_st_28 hkl hcc hlen hL hv h1 h2 hx hp hfin _ _ ⟨_, rfl, b9, G.next, hk0.push (by omega) _, blk_push_old hk1, blk_push_old hk2, blk_push_old hk3, blk_push_old hk4, Nat.le_succ_of_le hn, hl9, Nat.lt_succ_of_lt hu9, blk_push_old hc9, hn, Nat.lt_succ_self _, blk_push_new _ _, Nat.ne_of_lt hu9, rfl, rfl, rfl, rfl, rfl, rfl, rfl, rfl, rfl, rfl⟩)
set_option maxHeartbeats 4000000 in
theorem q9_st_34 {L : Int} {ks : List Int} {lb c' k : Nat} {x : Int} {H : AHeap} {Q : Exit → AFr → AHeap → Prop} (hkl : H.blk lb = some (.cells (fl i16 ks) 1)) (hcc : ks.length ≤ c') (hlen : ks.length ≤ 4194304) (hL : -32768 ≤ L ∧ L ≤ 32767) (hv : okRope L ks) (h1 : 0 < k) (h2 : k + 1 < ks.length) (hx : ks[k]? = some x) (hp : ∀ c fr G, ¬ Q (.panic c) fr G) (hfin : ∀ fr G, q9_J0 L ks lb c' k x H fr G → Q .normal fr G) : ∀ fr G, q9_J34 L ks lb c' k x H fr G → AA Try.prog ops_q9 Q 9 q9_l69 fr G := by
  have hlt0 := AHeap.lt hkl
  have ⟨v1, v2, v3, v4, v5, v6, v7⟩ := hv
  have bx := hv.bnd hx
  have hcl := cutB_len ks k x
  have htl : (ks.take (k + 1)).length = k + 1 := by simp; omega
  have hdl : (ks.drop k).length = ks.length - k := by simp
  rintro fr G ⟨get, rfl, b10, hk0, hk1, hk2, hk3, hk4, hn, hl10, hu10, hc10, g4, g5, g8, g44, g49, g55, g56, g58, g10⟩
  refine aa_slot (d := 4) (v := .pointer (some ⟨H.next + 1, 0, none⟩)) g4 ?_
  refine aa_slot (d := 5) (v := .pointer (some ⟨H.next + 2, 0, none⟩)) g5 ?_
  refine aa_slot (d := 8) (v := .int .i16 x) g8 ?_
  refine aa_slot (d := 44) (v := .int .i16 x) g44 ?_
  refine aa_slot (d := 49) (v := .slice (some ⟨lb, 0, none⟩) (k + 1) (k + 1 + 1)) g49 ?_
  refine aa_slot (d := 55) (v := .int .i16 (L - x)) g55 ?_
  refine aa_slot (d := 56) (v := .pointer (some ⟨H.next, 0 + 1, none⟩)) g56 ?_
  refine aa_slot (d := 58) (v := .int .i64 k) g58 ?_
  refine aa_slot (d := 10) (v := .pointer (some ⟨b10, 0, none⟩)) g10 ?_
  refine aax3 (i := 6) (j := 13) (l := 18) (by kernel_rfl) ?_ ?_ ?_
  · exact aa_oL (listed' := q9_l70) rfl rfl rfl rfl (by kernel_rfl) (ao_calld (cloneI16n_c (l := ks.take (k + 1)) (n := k + 1) (Sl.part (i := 0) i16_len (by exact HLp) rfl rfl (by simp) rfl (by simp; omega)) (by omega) (by omega)) Try.call26 rfl rfl) (aa_take (i := 7) (listed' := q9_l31) rfl (by kernel_rfl) (by kernel_rfl) (by kernel_rfl) rfl rfl rfl (by kernel_rfl) hp (apm_build (A := #[.int .i16 x, .slice (some ⟨G.next, 0, none⟩) (ks.take (k + 1)).length ((ks.take (k + 1)).length + 1)]) Try.zeroValue27 (by rfl) Try.underlying27 (by kernel_rfl) (by rfl) (by first | rfl | kernel_rfl)) (q9_st_18 hkl hcc hlen hL hv h1 h2 hx hp hfin _ _ ⟨_, rfl, G.next, b10, hk0.push (by omega) _, blk_push_old hk1, blk_push_old hk2, blk_push_old hk3, blk_push_old hk4, Nat.le_succ_of_le hn, hn, Nat.lt_succ_self _, blk_push_new _ _, hl10, Nat.lt_succ_of_lt hu10, blk_push_old hc10, (Nat.ne_of_gt hu10), rfl, rfl, rfl, rfl, rfl, rfl, rfl, rfl⟩))
  · exact aa_oL (listed' := q9_l71) rfl rfl rfl rfl (by kernel_rfl) (ao_load (v := .slice _ _ _) Try.isAgg23 (by rfl) (by exact HLp) (by rfl) (by exact RFp)) (aa_take (i := 15) (listed' := q9_l41) rfl (by kernel_rfl) (by kernel_rfl) (by kernel_rfl) rfl rfl rfl (by kernel_rfl) hp (apm_sliceLo Try.underlying23 Try.sizeOf22 (by rfl) (by rfl) (by first | rfl | omega) (by exact HLp) (by rfl) (by exact IXp)) (q9_st_23 hkl hcc hlen hL hv h1 h2 hx hp hfin _ _ ⟨_, rfl, b10, hk0, hk1, hk2, hk3, hk4, hn, hl10, hu10, hc10, rfl, rfl, rfl, rfl, rfl, rfl, rfl, rfl⟩))
  · exact aa_oL (listed' := q9_l52) rfl rfl rfl rfl (by kernel_rfl) (ao_alloca (zv27) (by rfl)) (q9_st_28 hkl hcc hlen hL hv h1 h2 hx hp hfin _ _ ⟨_, rfl, G.next, b10, hk0.push (by omega) _, blk_push_old hk1, blk_push_old hk2, blk_push_old hk3, blk_push_old hk4, Nat.le_succ_of_le hn, hn, Nat.lt_succ_self _, blk_push_new _ _, hl10, Nat.lt_succ_of_lt hu10, blk_push_old hc10, (Nat.ne_of_gt hu10), rfl, rfl, rfl, rfl, rfl, rfl, rfl, rfl, rfl, rfl⟩)
set_option maxHeartbeats 4000000 in
theorem q9_st_35 {L : Int} {ks : List Int} {lb c' k : Nat} {x : Int} {H : AHeap} {Q : Exit → AFr → AHeap → Prop} (hkl : H.blk lb = some (.cells (fl i16 ks) 1)) (hcc : ks.length ≤ c') (hlen : ks.length ≤ 4194304) (hL : -32768 ≤ L ∧ L ≤ 32767) (hv : okRope L ks) (h1 : 0 < k) (h2 : k + 1 < ks.length) (hx : ks[k]? = some x) (hp : ∀ c fr G, ¬ Q (.panic c) fr G) (hfin : ∀ fr G, q9_J0 L ks lb c' k x H fr G → Q .normal fr G) : ∀ fr G, q9_J35 L ks lb c' k x H fr G → AA Try.prog ops_q9 Q 9 q9_l72 fr G := by
  have hlt0 := AHeap.lt hkl
  have ⟨v1, v2, v3, v4, v5, v6, v7⟩ := hv
  have bx := hv.bnd hx
  have hcl := cutB_len ks k x
  have htl : (ks.take (k + 1)).length = k + 1 := by simp; omega
  have hdl : (ks.drop k).length = ks.length - k := by simp
  rintro fr G ⟨get, rfl, b9, hk0, hk1, hk2, hk3, hk4, hn, hl9, hu9, hc9, g4, g5, g8, g44, g49, g52, g54, g59, g9⟩
  refine aa_slot (d := 4) (v := .pointer (some ⟨H.next + 1, 0, none⟩)) g4 ?_
  refine aa_slot (d := 5) (v := .pointer (some ⟨H.next + 2, 0, none⟩)) g5 ?_
  refine aa_slot (d := 8) (v := .int .i16 x) g8 ?_
  refine aa_slot (d := 44) (v := .int .i16 x) g44 ?_
  refine aa_slot (d := 49) (v := .slice (some ⟨lb, 0, none⟩) (k + 1) (k + 1 + 1)) g49 ?_
  refine aa_slot (d := 52) (v := .pointer (some ⟨H.next, 0 + 0, none⟩)) g52 ?_
  refine aa_slot (d := 54) (v := .int .i16 x) g54 ?_
  refine aa_slot (d := 59) (v := .slice (some ⟨lb, 0 + k * 1, none⟩) (ks.length - k) (ks.length - k + 1)) g59 ?_
  refine aa_slot (d := 9) (v := .pointer (some ⟨b9, 0, none⟩)) g9 ?_
  refine aax3 (i := 6) (j := 9) (l := 19) (by kernel_rfl) ?_ ?_ ?_
  · exact aa_oL (listed' := q9_l73) rfl rfl rfl rfl (by kernel_rfl) (ao_calld (cloneI16n_c (l := ks.take (k + 1)) (n := k + 1) (Sl.part (i := 0) i16_len (by exact HLp) rfl rfl (by simp) rfl (by simp; omega)) (by omega) (by omega)) Try.call26 rfl rfl) (aa_take (i := 7) (listed' := q9_l35) rfl (by kernel_rfl) (by kernel_rfl) (by kernel_rfl) rfl rfl rfl (by kernel_rfl) hp (apm_build (A := #[.int .i16 x, .slice (some ⟨G.next, 0, none⟩) (ks.take (k + 1)).length ((ks.take (k + 1)).length + 1)]) Try.zeroValue27 (by rfl) Try.underlying27 (by kernel_rfl) (by rfl) (by first | rfl | kernel_rfl)) (q9_st_20 hkl hcc hlen hL hv h1 h2 hx hp hfin _ _ ⟨_, rfl, G.next, b9, hk0.push (by omega) _, blk_push_old hk1, blk_push_old hk2, blk_push_old hk3, blk_push_old hk4, Nat.le_succ_of_le hn, hn, Nat.lt_succ_self _, blk_push_new _ _, hl9, Nat.lt_succ_of_lt hu9, blk_push_old hc9, (Nat.ne_of_gt hu9), rfl, rfl, rfl, rfl, rfl, rfl, rfl, rfl⟩))
  · exact aa_oL (listed' := q9_l74) rfl rfl rfl rfl (by kernel_rfl) (ao_load (v := .int _ _) Try.isAgg22 (by rfl) (by exact HLp) (by rfl) (by exact RFp)) (aa_take (i := 11) (listed' := q9_l39) rfl (by kernel_rfl) (by kernel_rfl) (by kernel_rfl) rfl rfl rfl (by kernel_rfl) hp ((apm_sub rfl rfl).val (nw_i16 BDp BDp)) (q9_st_22 hkl hcc hlen hL hv h1 h2 hx hp hfin _ _ ⟨_, rfl, b9, hk0, hk1, hk2, hk3, hk4, hn, hl9, hu9, hc9, rfl, rfl, rfl, rfl, rfl, rfl, rfl, rfl⟩))
  · exact aa_oL (listed' := q9_l55) rfl rfl rfl rfl (by kernel_rfl) (ao_alloca (zv27) (by rfl)) (q9_st_29 hkl hcc hlen hL hv h1 h2 hx hp hfin _ _ ⟨_, rfl, b9, G.next, hk0.push (by omega) _, blk_push_old hk1, blk_push_old hk2, blk_push_old hk3, blk_push_old hk4, Nat.le_succ_of_le hn, hl9, Nat.lt_succ_of_lt hu9, blk_push_old hc9, hn, Nat.lt_succ_self _, blk_push_new _ _, Nat.ne_of_lt hu9, rfl, rfl, rfl, rfl, rfl, rfl, rfl, rfl, rfl, rfl⟩)
set_option maxHeartbeats 4000000 in
theorem q9_st_36 {L : Int} {ks : List Int} {lb c' k : Nat} {x : Int} {H : AHeap} {Q : Exit → AFr → AHeap → Prop} (hkl : H.blk lb = some (.cells (fl i16 ks) 1)) (hcc : ks.length ≤ c') (hlen : ks.length ≤ 4194304) (hL : -32768 ≤ L ∧ L ≤ 32767) (hv : okRope L ks) (h1 : 0 < k) (h2 : k + 1 < ks.length) (hx : ks[k]? = some x) (hp : ∀ c fr G, ¬ Q (.panic c) fr G) (hfin : ∀ fr G, q9_J0 L ks lb c' k x H fr G → Q .normal fr G) : ∀ fr G, q9_J36 L ks lb c' k x H fr G → AA Try.prog ops_q9 Q 9 q9_l75 fr G := by
  have hlt0 := AHeap.lt hkl
  have ⟨v1, v2, v3, v4, v5, v6, v7⟩ := hv
  have bx := hv.bnd hx
  have hcl := cutB_len ks k x
  have htl : (ks.take (k + 1)).length = k + 1 := by simp; omega
  have hdl : (ks.drop k).length = ks.length - k := by simp
  rintro fr G ⟨get, rfl, b10, hk0, hk1, hk2, hk3, hk4, hn, hl10, hu10, hc10, g4, g5, g8, g44, g49, g52, g54, g59, g10⟩
  refine aa_slot (d := 4) (v := .pointer (some ⟨H.next + 1, 0, none⟩)) g4 ?_
  refine aa_slot (d := 5) (v := .pointer (some ⟨H.next + 2, 0, none⟩)) g5 ?_
  refine aa_slot (d := 8) (v := .int .i16 x) g8 ?_
  refine aa_slot (d := 44) (v := .int .i16 x) g44 ?_
  refine aa_slot (d := 49) (v := .slice (some ⟨lb, 0, none⟩) (k + 1) (k + 1 + 1)) g49 ?_
  refine aa_slot (d := 52) (v := .pointer (some ⟨H.next, 0 + 0, none⟩)) g52 ?_
  refine aa_slot (d := 54) (v := .int .i16 x) g54 ?_
  refine aa_slot (d := 59) (v := .slice (some ⟨lb, 0 + k * 1, none⟩) (ks.length - k) (ks.length - k + 1)) g59 ?_
  refine aa_slot (d := 10) (v := .pointer (some ⟨b10, 0, none⟩)) g10 ?_
  refine aax3 (i := 6) (j := 9) (l := 18) (by kernel_rfl) ?_ ?_ ?_
  · exact aa_oL (listed' := q9_l76) rfl rfl rfl rfl (by kernel_rfl) (ao_calld (cloneI16n_c (l := ks.take (k + 1)) (n := k + 1) (Sl.part (i := 0) i16_len (by exact HLp) rfl rfl (by simp) rfl (by simp; omega)) (by omega) (by omega)) Try.call26 rfl rfl) (aa_take (i := 7) (listed' := q9_l37) rfl (by kernel_rfl) (by kernel_rfl) (by kernel_rfl) rfl rfl rfl (by kernel_rfl) hp (apm_build (A := #[.int .i16 x, .slice (some ⟨G.next, 0, none⟩) (ks.take (k + 1)).length ((ks.take (k + 1)).length + 1)]) Try.zeroValue27 (by rfl) Try.underlying27 (by kernel_rfl) (by rfl) (by first | rfl | kernel_rfl)) (q9_st_21 hkl hcc hlen hL hv h1 h2 hx hp hfin _ _ ⟨_, rfl, G.next, b10, hk0.push (by omega) _, blk_push_old hk1, blk_push_old hk2, blk_push_old hk3, blk_push_old hk4, Nat.le_succ_of_le hn, hn, Nat.lt_succ_self _, blk_push_new _ _, hl10, Nat.lt_succ_of_lt hu10, blk_push_old hc10, (Nat.ne_of_gt hu10), rfl, rfl, rfl, rfl, rfl, rfl, rfl, rfl⟩))
  · exact aa_oL (listed' := q9_l77) rfl rfl rfl rfl (by kernel_rfl) (ao_load (v := .int _ _) Try.isAgg22 (by rfl) (by exact HLp) (by rfl) (by exact RFp)) (aa_take (i := 11) (listed' := q9_l41) rfl (by kernel_rfl) (by kernel_rfl) (by kernel_rfl) rfl rfl rfl (by kernel_rfl) hp ((apm_sub rfl rfl).val (nw_i16 BDp BDp)) (q9_st_23 hkl hcc hlen hL hv h1 h2 hx hp hfin _ _ ⟨_, rfl, b10, hk0, hk1, hk2, hk3, hk4, hn, hl10, hu10, hc10, rfl, rfl, rfl, rfl, rfl, rfl, rfl, rfl⟩))
  · exact aa_oL (listed' := q9_l55) rfl rfl rfl rfl (by kernel_rfl) (ao_alloca (zv27) (by rfl)) (q9_st_29 hkl hcc hlen hL hv h1 h2 hx hp hfin _ _ ⟨_, rfl, G.next, b10, hk0.push (by omega) _, blk_push_old hk1, blk_push_old hk2, blk_push_old hk3, blk_push_old hk4, Nat.le_succ_of_le hn, hn, Nat.lt_succ_self _, blk_push_new _ _, hl10, Nat.lt_succ_of_lt hu10, blk_push_old hc10, (Nat.ne_of_gt hu10), rfl, rfl, rfl, rfl, rfl, rfl, rfl, rfl, rfl, rfl⟩)
set_option maxHeartbeats 4000000 in
theorem q9_st_37 {L : Int} {ks : List Int} {lb c' k : Nat} {x : Int} {H : AHeap} {Q : Exit → AFr → AHeap → Prop} (hkl : H.blk lb = some (.cells (fl i16 ks) 1)) (hcc : ks.length ≤ c') (hlen : ks.length ≤ 4194304) (hL : -32768 ≤ L ∧ L ≤ 32767) (hv : okRope L ks) (h1 : 0 < k) (h2 : k + 1 < ks.length) (hx : ks[k]? = some x) (hp : ∀ c fr G, ¬ Q (.panic c) fr G) (hfin : ∀ fr G, q9_J0 L ks lb c' k x H fr G → Q .normal fr G) : ∀ fr G, q9_J37 L ks lb c' k x H fr G → AA Try.prog ops_q9 Q 9 q9_l78 fr G := by
  have hlt0 := AHeap.lt hkl
  have ⟨v1, v2, v3, v4, v5, v6, v7⟩ := hv
  have bx := hv.bnd hx
  have hcl := cutB_len ks k x
  have htl : (ks.take (k + 1)).length = k + 1 := by simp; omega
  have hdl : (ks.drop k).length = ks.length - k := by simp
  rintro fr G ⟨get, rfl, b9, hk0, hk1, hk2, hk3, hk4, hn, hl9, hu9, hc9, g4, g5, g8, g44, g45, g48, g55, g59, g9⟩
  refine aa_slot (d := 4) (v := .pointer (some ⟨H.next + 1, 0, none⟩)) g4 ?_
  refine aa_slot (d := 5) (v := .pointer (some ⟨H.next + 2, 0, none⟩)) g5 ?_
  refine aa_slot (d := 8) (v := .int .i16 x) g8 ?_
  refine aa_slot (d := 44) (v := .int .i16 x) g44 ?_
  refine aa_slot (d := 45) (v := .pointer (some ⟨H.next, 0 + 1, none⟩)) g45 ?_
  refine aa_slot (d := 48) (v := .int .i64 ((k + 1 : Nat) : Int)) g48 ?_
  refine aa_slot (d := 55) (v := .int .i16 (L - x)) g55 ?_
  refine aa_slot (d := 59) (v := .slice (some ⟨lb, 0 + k * 1, none⟩) (ks.length - k) (ks.length - k + 1)) g59 ?_
  refine aa_slot (d := 9) (v := .pointer (some ⟨b9, 0, none⟩)) g9 ?_
  refine aax2 (i := 2) (j := 19) (by kernel_rfl) ?_ ?_
  · exact aa_oL (listed' := q9_l79) rfl rfl rfl rfl (by kernel_rfl) (ao_load (v := .slice _ _ _) Try.isAgg23 (by rfl) (by exact HLp) (by rfl) (by exact RFp)) (aa_take (i := 5) (listed' := q9_l39) rfl (by kernel_rfl) (by kernel_rfl) (by kernel_rfl) rfl rfl rfl (by kernel_rfl) hp (apm_sliceHi Try.underlying23 Try.sizeOf22 (by rfl) (by rfl) (by first | rfl | omega) (by exact HLp) (by rfl) (by exact IXp)) (q9_st_22 hkl hcc hlen hL hv h1 h2 hx hp hfin _ _ ⟨_, rfl, b9, hk0, hk1, hk2, hk3, hk4, hn, hl9, hu9, hc9, rfl, rfl, rfl, rfl, rfl, rfl, rfl, rfl⟩))
  · exact aa_oL (listed' := q9_l58) rfl rfl rfl rfl (by kernel_rfl) (ao_alloca (zv27) (by rfl)) (q9_st_30 hkl hcc hlen hL hv h1 h2 hx hp hfin _ _ ⟨_, rfl, b9, G.next, hk0.push (by omega) _, blk_push_old hk1, blk_push_old hk2, blk_push_old hk3, blk_push_old hk4, Nat.le_succ_of_le hn, hl9, Nat.lt_succ_of_lt hu9, blk_push_old hc9, hn, Nat.lt_succ_self _, blk_push_new _ _, Nat.ne_of_lt hu9, rfl, rfl, rfl, rfl, rfl, rfl, rfl, rfl, rfl, rfl⟩)
set_option maxHeartbeats 4000000 in
theorem q9_st_38 {L : Int} {ks : List Int} {lb c' k : Nat} {x : Int} {H : AHeap} {Q : Exit → AFr → AHeap → Prop} (hkl : H.blk lb = some (.cells (fl i16 ks) 1)) (hcc : ks.length ≤ c') (hlen : ks.length ≤ 4194304) (hL : -32768 ≤ L ∧ L ≤ 32767) (hv : okRope L ks) (h1 : 0 < k) (h2 : k + 1 < ks.length) (hx : ks[k]? = some x) (hp : ∀ c fr G, ¬ Q (.panic c) fr G) (hfin : ∀ fr G, q9_J0 L ks lb c' k x H fr G → Q .normal fr G) : ∀ fr G, q9_J38 L ks lb c' k x H fr G → AA Try.prog ops_q9 Q 9 q9_l80 fr G := by
  have hlt0 := AHeap.lt hkl
  have ⟨v1, v2, v3, v4, v5, v6, v7⟩ := hv
  have bx := hv.bnd hx
  have hcl := cutB_len ks k x
  have htl : (ks.take (k + 1)).length = k + 1 := by simp; omega
  have hdl : (ks.drop k).length = ks.length - k := by simp
  rintro fr G ⟨get, rfl, b10, hk0, hk1, hk2, hk3, hk4, hn, hl10, hu10, hc10, g4, g5, g8, g44, g45, g48, g55, g59, g10⟩
  refine aa_slot (d := 4) (v := .pointer (some ⟨H.next + 1, 0, none⟩)) g4 ?_
  refine aa_slot (d := 5) (v := .pointer (some ⟨H.next + 2, 0, none⟩)) g5 ?_
  refine aa_slot (d := 8) (v := .int .i16 x) g8 ?_
  refine aa_slot (d := 44) (v := .int .i16 x) g44 ?_
  refine aa_slot (d := 45) (v := .pointer (some ⟨H.next, 0 + 1, none⟩)) g45 ?_
  refine aa_slot (d := 48) (v := .int .i64 ((k + 1 : Nat) : Int)) g48 ?_
  refine aa_slot (d := 55) (v := .int .i16 (L - x)) g55 ?_
  refine aa_slot (d := 59) (v := .slice (some ⟨lb, 0 + k * 1, none⟩) (ks.length - k) (ks.length - k + 1)) g59 ?_
  refine aa_slot (d := 10) (v := .pointer (some ⟨b10, 0, none⟩)) g10 ?_
  refine aax2 (i := 2) (j := 18) (by kernel_rfl) ?_ ?_
  · exact aa_oL (listed' := q9_l81) rfl rfl rfl rfl (by kernel_rfl) (ao_load (v := .slice _ _ _) Try.isAgg23 (by rfl) (by exact HLp) (by rfl) (by exact RFp)) (aa_take (i := 5) (listed' := q9_l41) rfl (by kernel_rfl) (by kernel_rfl) (by kernel_rfl) rfl rfl rfl (by kernel_rfl) hp (apm_sliceHi Try.underlying23 Try.sizeOf22 (by rfl) (by rfl) (by first | rfl | omega) (by exact HLp) (by rfl) (by exact IXp)) (q9_st_23 hkl hcc hlen hL hv h1 h2 hx hp hfin _ _ ⟨_, rfl, b10, hk0, hk1, hk2, hk3, hk4, hn, hl10, hu10, hc10, rfl, rfl, rfl, rfl, rfl, rfl, rfl, rfl⟩))
  · exact aa_oL (listed' := q9_l58) rfl rfl rfl rfl (by kernel_rfl) (ao_alloca (zv27) (by rfl)) (q9_st_30 hkl hcc hlen hL hv h1 h2 hx hp hfin _ _ ⟨_, rfl, G.next, b10, hk0.push (by omega) _, blk_push_old hk1, blk_push_old hk2, blk_push_old hk3, blk_push_old hk4, Nat.le_succ_of_le hn, hn, Nat.lt_succ_self _, blk_push_new _ _, hl10, Nat.lt_succ_of_lt hu10, blk_push_old hc10, (Nat.ne_of_gt hu10), rfl, rfl, rfl, rfl, rfl, rfl, rfl, rfl, rfl, rfl⟩)
set_option maxHeartbeats 4000000 in
theorem q9_st_39 {L : Int} {ks : List Int} {lb c' k : Nat} {x : Int} {H : AHeap} {Q : Exit → AFr → AHeap → Prop} (hkl : H.blk lb = some (.cells (fl i16 ks) 1)) (hcc : ks.length ≤ c') (hlen : ks.length ≤ 4194304) (hL : -32768 ≤ L ∧ L ≤ 32767) (hv : okRope L ks) (h1 : 0 < k) (h2 : k + 1 < ks.length) (hx : ks[k]? = some x) (hp : ∀ c fr G, ¬ Q (.panic c) fr G) (hfin : ∀ fr G, q9_J0 L ks lb c' k x H fr G → Q .normal fr G) : ∀ fr G, q9_J39 L ks lb c' k x H fr G → AA Try.prog ops_q9 Q 10 q9_l82 fr G := by
  have hlt0 := AHeap.lt hkl
  have ⟨v1, v2, v3, v4, v5, v6, v7⟩ := hv
  have bx := hv.bnd hx
  have hcl := cutB_len ks k x
  have htl : (ks.take (k + 1)).length = k + 1 := by simp; omega
  have hdl : (ks.drop k).length = ks.length - k := by simp
  rintro fr G ⟨get, rfl, b50, hk0, hk1, hk2, hk3, hk4, hn, hl50, hu50, hc50, g4, g5, g8, g51, g52, g54, g56, g58⟩
  refine aa_slot (d := 4) (v := .pointer (some ⟨H.next + 1, 0, none⟩)) g4 ?_
  refine aa_slot (d := 5) (v := .pointer (some ⟨H.next + 2, 0, none⟩)) g5 ?_
  refine aa_slot (d := 8) (v := .int .i16 x) g8 ?_
  refine aa_slot (d := 51) (v := .agg #[.int .i16 x, .slice (some ⟨b50, 0, none⟩) (ks.take (k + 1)).length ((ks.take (k + 1)).length + 1)]) g51 ?_
  refine aa_slot (d := 52) (v := .pointer (some ⟨H.next, 0 + 0, none⟩)) g52 ?_
  refine aa_slot (d := 54) (v := .int .i16 x) g54 ?_
  refine aa_slot (d := 56) (v := .pointer (some ⟨H.next, 0 + 1, none⟩)) g56 ?_
  refine aa_slot (d := 58) (v := .int .i64 k) g58 ?_
  refine aax4 (i := 9) (j := 13) (l := 18) (o := 19) (by kernel_rfl) ?_ ?_ ?_ ?_
  · exact aa_oL (listed' := q9_l83) rfl rfl rfl rfl (by kernel_rfl) (ao_load (v := .int _ _) Try.isAgg22 (by rfl) (by exact HLp) (by rfl) (by exact RFp)) (aa_take (i := 11) (listed' := q9_l43) rfl (by kernel_rfl) (by kernel_rfl) (by kernel_rfl) rfl rfl rfl (by kernel_rfl) hp ((apm_sub rfl rfl).val (nw_i16 BDp BDp)) (q9_st_24 hkl hcc hlen hL hv h1 h2 hx hp hfin _ _ ⟨_, rfl, b50, hk0, hk1, hk2, hk3, hk4, hn, hl50, hu50, hc50, rfl, rfl, rfl, rfl, rfl, rfl, rfl⟩))
  · exact aa_oL (listed' := q9_l84) rfl rfl rfl rfl (by kernel_rfl) (ao_load (v := .slice _ _ _) Try.isAgg23 (by rfl) (by exact HLp) (by rfl) (by exact RFp)) (aa_take (i := 15) (listed' := q9_l45) rfl (by kernel_rfl) (by kernel_rfl) (by kernel_rfl) rfl rfl rfl (by kernel_rfl) hp (apm_sliceLo Try.underlying23 Try.sizeOf22 (by rfl) (by rfl) (by first | rfl | omega) (by exact HLp) (by rfl) (by exact IXp)) (q9_st_25 hkl hcc hlen hL hv h1 h2 hx hp hfin _ _ ⟨_, rfl, b50, hk0, hk1, hk2, hk3, hk4, hn, hl50, hu50, hc50, rfl, rfl, rfl, rfl, rfl, rfl, rfl⟩))
  · exact aa_oL (listed' := q9_l60) rfl rfl rfl rfl (by kernel_rfl) (ao_alloca (zv27) (by rfl)) (q9_st_31 hkl hcc hlen hL hv h1 h2 hx hp hfin _ _ ⟨_, rfl, b50, G.next, hk0.push (by omega) _, blk_push_old hk1, blk_push_old hk2, blk_push_old hk3, blk_push_old hk4, Nat.le_succ_of_le hn, hl50, Nat.lt_succ_of_lt hu50, blk_push_old hc50, hn, Nat.lt_succ_self _, blk_push_new _ _, Nat.ne_of_lt hu50, rfl, rfl, rfl, rfl, rfl, rfl, rfl, rfl, rfl⟩)
  · exact aa_oL (listed' := q9_l63) rfl rfl rfl rfl (by kernel_rfl) (ao_alloca (zv27) (by rfl)) (q9_st_32 hkl hcc hlen hL hv h1 h2 hx hp hfin _ _ ⟨_, rfl, b50, G.next, hk0.push (by omega) _, blk_push_old hk1, blk_push_old hk2, blk_push_old hk3, blk_push_old hk4, Nat.le_succ_of_le hn, hl50, Nat.lt_succ_of_lt hu50, blk_push_old hc50, hn, Nat.lt_succ_self _, blk_push_new _ _, Nat.ne_of_lt hu50, rfl, rfl, rfl, rfl, rfl, rfl, rfl, rfl, rfl⟩)
set_option maxHeartbeats 4000000 in
theorem q9_st_40 {L : Int} {ks : List Int} {lb c' k : Nat} {x : Int} {H : AHeap} {Q : Exit → AFr → AHeap → Prop} (hkl : H.blk lb = some (.cells (fl i16 ks) 1)) (hcc : ks.length ≤ c') (hlen : ks.length ≤ 4194304) (hL : -32768 ≤ L ∧ L ≤ 32767) (hv : okRope L ks) (h1 : 0 < k) (h2 : k + 1 < ks.length) (hx : ks[k]? = some x) (hp : ∀ c fr G, ¬ Q (.panic c) fr G) (hfin : ∀ fr G, q9_J0 L ks lb c' k x H fr G → Q .normal fr G) : ∀ fr G, q9_J40 L ks lb c' k x H fr G → AA Try.prog ops_q9 Q 10 q9_l85 fr G := by
  have hlt0 := AHeap.lt hkl
  have ⟨v1, v2, v3, v4, v5, v6, v7⟩ := hv
  have bx := hv.bnd hx
  have hcl := cutB_len ks k x
  have htl : (ks.take (k + 1)).length = k + 1 := by simp; omega
  have hdl : (ks.drop k).length = ks.length - k := by simp
  rintro fr G ⟨get, rfl, hk0, hk1, hk2, hk3, hk4, hn, g4, g5, g8, g44, g49, g55, g56, g58⟩
  refine aa_slot (d := 4) (v := .pointer (some ⟨H.next + 1, 0, none⟩)) g4 ?_
  refine aa_slot (d := 5) (v := .pointer (some ⟨H.next + 2, 0, none⟩)) g5 ?_
  refine aa_slot (d := 8) (v := .int .i16 x) g8 ?_
  refine aa_slot (d := 44) (v := .int .i16 x) g44 ?_
  refine aa_slot (d := 49) (v := .slice (some ⟨lb, 0, none⟩) (k + 1) (k + 1 + 1)) g49 ?_
  refine aa_slot (d := 55) (v := .int .i16 (L - x)) g55 ?_
  refine aa_slot (d := 56) (v := .pointer (some ⟨H.next, 0 + 1, none⟩)) g56 ?_
  refine aa_slot (d := 58) (v := .int .i64 k) g58 ?_
  refine aax4 (i := 6) (j := 13) (l := 18) (o := 19) (by kernel_rfl) ?_ ?_ ?_ ?_
  · exact aa_oL (listed' := q9_l86) rfl rfl rfl rfl (by kernel_rfl) (ao_calld (cloneI16n_c (l := ks.take (k + 1)) (n := k + 1) (Sl.part (i := 0) i16_len (by exact HLp) rfl rfl (by simp) rfl (by simp; omega)) (by omega) (by omega)) Try.call26 rfl rfl) (aa_take (i := 7) (listed' := q9_l43) rfl (by kernel_rfl) (by kernel_rfl) (by kernel_rfl) rfl rfl rfl (by kernel_rfl) hp (apm_build (A := #[.int .i16 x, .slice (some ⟨G.next, 0, none⟩) (ks.take (k + 1)).length ((ks.take (k + 1)).length + 1)]) Try.zeroValue27 (by rfl) Try.underlying27 (by kernel_rfl) (by rfl) (by first | rfl | kernel_rfl)) (q9_st_24 hkl hcc hlen hL hv h1 h2 hx hp hfin _ _ ⟨_, rfl, G.next, hk0.push (by omega) _, blk_push_old hk1, blk_push_old hk2, blk_push_old hk3, blk_push_old hk4, Nat.le_succ_of_le hn, hn, Nat.lt_succ_self _, blk_push_new _ _, rfl, rfl, rfl, rfl, rfl, rfl, rfl⟩))
  · exact aa_oL (listed' := q9_l87) rfl rfl rfl rfl (by kernel_rfl) (ao_load (v := .slice _ _ _) Try.isAgg23 (by rfl) (by exact HLp) (by rfl) (by exact RFp)) (aa_take (i := 15) (listed' := q9_l50) rfl (by kernel_rfl) (by kernel_rfl) (by kernel_rfl) rfl rfl rfl (by kernel_rfl) hp (apm_sliceLo Try.underlying23 Try.sizeOf22 (by rfl) (by rfl) (by first | rfl | omega) (by exact HLp) (by rfl) (by exact IXp)) (q9_st_27 hkl hcc hlen hL hv h1 h2 hx hp hfin _ _ ⟨_, rfl, hk0, hk1, hk2, hk3, hk4, hn, rfl, rfl, rfl, rfl, rfl, rfl, rfl⟩))
  · exact aa_oL (listed' := q9_l66) rfl rfl rfl rfl (by kernel_rfl) (ao_alloca (zv27) (by rfl)) (q9_st_33 hkl hcc hlen hL hv h1 h2 hx hp hfin _ _ ⟨_, rfl, G.next, hk0.push (by omega) _, blk_push_old hk1, blk_push_old hk2, blk_push_old hk3, blk_push_old hk4, Nat.le_succ_of_le hn, hn, Nat.lt_succ_self _, blk_push_new _ _, rfl, rfl, rfl, rfl, rfl, rfl, rfl, rfl, rfl⟩)
  · exact aa_oL (listed' := q9_l69) rfl rfl rfl rfl (by kernel_rfl) (ao_alloca (zv27) (by rfl)) (q9_st_34 hkl hcc hlen hL hv h1 h2 hx hp hfin _ _ ⟨_, rfl, G.next, hk0.push (by omega) _, blk_push_old hk1, blk_push_old hk2, blk_push_old hk3, blk_push_old hk4, Nat.le_succ_of_le hn, hn, Nat.lt_succ_self _, blk_push_new _ _, rfl, rfl, rfl, rfl, rfl, rfl, rfl, rfl, rfl⟩)
set_option maxHeartbeats 4000000 in
theorem q9_st_41 {L : Int} {ks : List Int} {lb c' k : Nat} {x : Int} {H : AHeap} {Q : Exit → AFr → AHeap → Prop} (hkl : H.blk lb = some (.cells (fl i16 ks) 1)) (hcc : ks.length ≤ c') (hlen : ks.length ≤ 4194304) (hL : -32768 ≤ L ∧ L ≤ 32767) (hv : okRope L ks) (h1 : 0 < k) (h2 : k + 1 < ks.length) (hx : ks[k]? = some x) (hp : ∀ c fr G, ¬ Q (.panic c) fr G) (hfin : ∀ fr G, q9_J0 L ks lb c' k x H fr G → Q .normal fr G) : ∀ fr G, q9_J41 L ks lb c' k x H fr G → AA Try.prog ops_q9 Q 10 q9_l88 fr G := by
  have hlt0 := AHeap.lt hkl
  have ⟨v1, v2, v3, v4, v5, v6, v7⟩ := hv
  have bx := hv.bnd hx
  have hcl := cutB_len ks k x
  have htl : (ks.take (k + 1)).length = k + 1 := by simp; omega
  have hdl : (ks.drop k).length = ks.length - k := by simp
  rintro fr G ⟨get, rfl, hk0, hk1, hk2, hk3, hk4, hn, g4, g5, g8, g44, g49, g52, g54, g59⟩
  refine aa_slot (d := 4) (v := .pointer (some ⟨H.next + 1, 0, none⟩)) g4 ?_
  refine aa_slot (d := 5) (v := .pointer (some ⟨H.next + 2, 0, none⟩)) g5 ?_
  refine aa_slot (d := 8) (v := .int .i16 x) g8 ?_
  refine aa_slot (d := 44) (v := .int .i16 x) g44 ?_
  refine aa_slot (d := 49) (v := .slice (some ⟨lb, 0, none⟩) (k + 1) (k + 1 + 1)) g49 ?_
  refine aa_slot (d := 52) (v := .pointer (some ⟨H.next, 0 + 0, none⟩)) g52 ?_
  refine aa_slot (d := 54) (v := .int .i16 x) g54 ?_
  refine aa_slot (d := 59) (v := .slice (some ⟨lb, 0 + k * 1, none⟩) (ks.length - k) (ks.length - k + 1)) g59 ?_
  refine aax4 (i := 6) (j := 9) (l := 18) (o := 19) (by kernel_rfl) ?_ ?_ ?_ ?_
  · exact aa_oL (listed' := q9_l89) rfl rfl rfl rfl (by kernel_rfl) (ao_calld (cloneI16n_c (l := ks.take (k + 1)) (n := k + 1) (Sl.part (i := 0) i16_len (by exact HLp) rfl rfl (by simp) rfl (by simp; omega)) (by omega) (by omega)) Try.call26 rfl rfl) (aa_take (i := 7) (listed' := q9_l45) rfl (by kernel_rfl) (by kernel_rfl) (by kernel_rfl) rfl rfl rfl (by kernel_rfl) hp (apm_build (A := #[.int .i16 x, .slice (some ⟨G.next, 0, none⟩) (ks.take (k + 1)).length ((ks.take (k + 1)).length + 1)]) Try.zeroValue27 (by rfl) Try.underlying27 (by kernel_rfl) (by rfl) (by first | rfl | kernel_rfl)) (q9_st_25 hkl hcc hlen hL hv h1 h2 hx hp hfin _ _ ⟨_, rfl, G.next, hk0.push (by omega) _, blk_push_old hk1, blk_push_old hk2, blk_push_old hk3, blk_push_old hk4, Nat.le_succ_of_le hn, hn, Nat.lt_succ_self _, blk_push_new _ _, rfl, rfl, rfl, rfl, rfl, rfl, rfl⟩))
  · exact aa_oL (listed' := q9_l90) rfl rfl rfl rfl (by kernel_rfl) (ao_load (v := .int _ _) Try.isAgg22 (by rfl) (by exact HLp) (by rfl) (by exact RFp)) (aa_take (i := 11) (listed' := q9_l50) rfl (by kernel_rfl) (by kernel_rfl) (by kernel_rfl) rfl rfl rfl (by kernel_rfl) hp ((apm_sub rfl rfl).val (nw_i16 BDp BDp)) (q9_st_27 hkl hcc hlen hL hv h1 h2 hx hp hfin _ _ ⟨_, rfl, hk0, hk1, hk2, hk3, hk4, hn, rfl, rfl, rfl, rfl, rfl, rfl, rfl⟩))
  · exact aa_oL (listed' := q9_l72) rfl rfl rfl rfl (by kernel_rfl) (ao_alloca (zv27) (by rfl)) (q9_st_35 hkl hcc hlen hL hv h1 h2 hx hp hfin _ _ ⟨_, rfl, G.next, hk0.push (by omega) _, blk_push_old hk1, blk_push_old hk2, blk_push_old hk3, blk_push_old hk4, Nat.le_succ_of_le hn, hn, Nat.lt_succ_self _, blk_push_new _ _, rfl, rfl, rfl, rfl, rfl, rfl, rfl, rfl, rfl⟩)
  · exact aa_oL (listed' := q9_l75) rfl rfl rfl rfl (by kernel_rfl) (ao_alloca (zv27) (by rfl)) (q9_st_36 hkl hcc hlen hL hv h1 h2 hx hp hfin _ _ ⟨_, rfl, G.next, hk0.push (by omega) _, blk_push_old hk1, blk_push_old hk2, blk_push_old hk3, blk_push_old hk4, Nat.le_succ_of_le hn, hn, Nat.lt_succ_self _, blk_push_new _ _, rfl, rfl, rfl, rfl, rfl, rfl, rfl, rfl, rfl⟩)
set_option maxHeartbeats 4000000 in
theorem q9_st_42 {L : Int} {ks : List Int} {lb c' k : Nat} {x : Int} {H : AHeap} {Q : Exit → AFr → AHeap → Prop} (hkl : H.blk lb = some (.cells (fl i16 ks) 1)) (hcc : ks.length ≤ c') (hlen : ks.length ≤ 4194304) (hL : -32768 ≤ L ∧ L ≤ 32767) (hv : okRope L ks) (h1 : 0 < k) (h2 : k + 1 < ks.length) (hx : ks[k]? = some x) (hp : ∀ c fr G, ¬ Q (.panic c) fr G) (hfin : ∀ fr G, q9_J0 L ks lb c' k x H fr G → Q .normal fr G) : ∀ fr G, q9_J42 L ks lb c' k x H fr G → AA Try.prog ops_q9 Q 10 q9_l91 fr G := by
  have hlt0 := AHeap.lt hkl
  have ⟨v1, v2, v3, v4, v5, v6, v7⟩ := hv
  have bx := hv.bnd hx
  have hcl := cutB_len ks k x
  have htl : (ks.take (k + 1)).length = k + 1 := by simp; omega
  have hdl : (ks.drop k).length = ks.length - k := by simp
  rintro fr G ⟨get, rfl, b9, b10, hk0, hk1, hk2, hk3, hk4, hn, hl9, hu9, hc9, hl10, hu10, hc10, he9_10, g4, g5, g8, g44, g49, g52, g54, g56, g58, g9, g10⟩
  refine aa_slot (d := 4) (v := .pointer (some ⟨H.next + 1, 0, none⟩)) g4 ?_
  refine aa_slot (d := 5) (v := .pointer (some ⟨H.next + 2, 0, none⟩)) g5 ?_
  refine aa_slot (d := 8) (v := .int .i16 x) g8 ?_
  refine aa_slot (d := 44) (v := .int .i16 x) g44 ?_
  refine aa_slot (d := 49) (v := .slice (some ⟨lb, 0, none⟩) (k + 1) (k + 1 + 1)) g49 ?_
  refine aa_slot (d := 52) (v := .pointer (some ⟨H.next, 0 + 0, none⟩)) g52 ?_
  refine aa_slot (d := 54) (v := .int .i16 x) g54 ?_
  refine aa_slot (d := 56) (v := .pointer (some ⟨H.next, 0 + 1, none⟩)) g56 ?_
  refine aa_slot (d := 58) (v := .int .i64 k) g58 ?_
  refine aa_slot (d := 9) (v := .pointer (some ⟨b9, 0, none⟩)) g9 ?_
  refine aa_slot (d := 10) (v := .pointer (some ⟨b10, 0, none⟩)) g10 ?_
  refine aax3 (i := 6) (j := 9) (l := 13) (by kernel_rfl) ?_ ?_ ?_
  · exact aa_oL (listed' := q9_l92) rfl rfl rfl rfl (by kernel_rfl) (ao_calld (cloneI16n_c (l := ks.take (k + 1)) (n := k + 1) (Sl.part (i := 0) i16_len (by exact HLp) rfl rfl (by simp) rfl (by simp; omega)) (by omega) (by omega)) Try.call26 rfl rfl) (aa_take (i := 7) (listed' := q9_l47) rfl (by kernel_rfl) (by kernel_rfl) (by kernel_rfl) rfl rfl rfl (by kernel_rfl) hp (apm_build (A := #[.int .i16 x, .slice (some ⟨G.next, 0, none⟩) (ks.take (k + 1)).length ((ks.take (k + 1)).length + 1)]) Try.zeroValue27 (by rfl) Try.underlying27 (by kernel_rfl) (by rfl) (by first | rfl | kernel_rfl)) (q9_st_26 hkl hcc hlen hL hv h1 h2 hx hp hfin _ _ ⟨_, rfl, G.next, b9, b10, hk0.push (by omega) _, blk_push_old hk1, blk_push_old hk2, blk_push_old hk3, blk_push_old hk4, Nat.le_succ_of_le hn, hn, Nat.lt_succ_self _, blk_push_new _ _, hl9, Nat.lt_succ_of_lt hu9, blk_push_old hc9, hl10, Nat.lt_succ_of_lt hu10, blk_push_old hc10, (Nat.ne_of_gt hu9), (Nat.ne_of_gt hu10), he9_10, rfl, rfl, rfl, rfl, rfl, rfl, rfl, rfl, rfl, rfl⟩))
  · exact aa_oL (listed' := q9_l93) rfl rfl rfl rfl (by kernel_rfl) (ao_load (v := .int _ _) Try.isAgg22 (by rfl) (by exact HLp) (by rfl) (by exact RFp)) (aa_take (i := 11) (listed' := q9_l52) rfl (by kernel_rfl) (by kernel_rfl) (by kernel_rfl) rfl rfl rfl (by kernel_rfl) hp ((apm_sub rfl rfl).val (nw_i16 BDp BDp)) (q9_st_28 hkl hcc hlen hL hv h1 h2 hx hp hfin _ _ ⟨_, rfl, b9, b10, hk0, hk1, hk2, hk3, hk4, hn, hl9, hu9, hc9, hl10, hu10, hc10, he9_10, rfl, rfl, rfl, rfl, rfl, rfl, rfl, rfl, rfl, rfl⟩))
  · exact aa_oL (listed' := q9_l94) rfl rfl rfl rfl (by kernel_rfl) (ao_load (v := .slice _ _ _) Try.isAgg23 (by rfl) (by exact HLp) (by rfl) (by exact RFp)) (aa_take (i := 15) (listed' := q9_l55) rfl (by kernel_rfl) (by kernel_rfl) (by kernel_rfl) rfl rfl rfl (by kernel_rfl) hp (apm_sliceLo Try.underlying23 Try.sizeOf22 (by rfl) (by rfl) (by first | rfl | omega) (by exact HLp) (by rfl) (by exact IXp)) (q9_st_29 hkl hcc hlen hL hv h1 h2 hx hp hfin _ _ ⟨_, rfl, b9, b10, hk0, hk1, hk2, hk3, hk4, hn, hl9, hu9, hc9, hl10, hu10, hc10, he9_10, rfl, rfl, rfl, rfl, rfl, rfl, rfl, rfl, rfl, rfl⟩))
set_option maxHeartbeats 4000000 in
theorem q9_st_43 {L : Int} {ks : List Int} {lb c' k : Nat} {x : Int} {H : AHeap} {Q : Exit → AFr → AHeap → Prop} (hkl : H.blk lb = some (.cells (fl i16 ks) 1)) (hcc : ks.length ≤ c') (hlen : ks.length ≤ 4194304) (hL : -32768 ≤ L ∧ L ≤ 32767) (hv : okRope L ks) (h1 : 0 < k) (h2 : k + 1 < ks.length) (hx : ks[k]? = some x) (hp : ∀ c fr G, ¬ Q (.panic c) fr G) (hfin : ∀ fr G, q9_J0 L ks lb c' k x H fr G → Q .normal fr G) : ∀ fr G, q9_J43 L ks lb c' k x H fr G → AA Try.prog ops_q9 Q 10 q9_l95 fr G := by
  have hlt0 := AHeap.lt hkl
  have ⟨v1, v2, v3, v4, v5, v6, v7⟩ := hv
  have bx := hv.bnd hx
  have hcl := cutB_len ks k x
  have htl : (ks.take (k + 1)).length = k + 1 := by simp; omega
  have hdl : (ks.drop k).length = ks.length - k := by simp
  rintro fr G ⟨get, rfl, hk0, hk1, hk2, hk3, hk4, hn, g4, g5, g8, g44, g45, g48, g55, g59⟩
  refine aa_slot (d := 4) (v := .pointer (some ⟨H.next + 1, 0, none⟩)) g4 ?_
  refine aa_slot (d := 5) (v := .pointer (some ⟨H.next + 2, 0, none⟩)) g5 ?_
  refine aa_slot (d := 8) (v := .int .i16 x) g8 ?_
  refine aa_slot (d := 44) (v := .int .i16 x) g44 ?_
  refine aa_slot (d := 45) (v := .pointer (some ⟨H.next, 0 + 1, none⟩)) g45 ?_
  refine aa_slot (d := 48) (v := .int .i64 ((k + 1 : Nat) : Int)) g48 ?_
  refine aa_slot (d := 55) (v := .int .i16 (L - x)) g55 ?_
  refine aa_slot (d := 59) (v := .slice (some ⟨lb, 0 + k * 1, none⟩) (ks.length - k) (ks.length - k + 1)) g59 ?_
  refine aax3 (i := 2) (j := 18) (l := 19) (by kernel_rfl) ?_ ?_ ?_
  · exact aa_oL (listed' := q9_l96) rfl rfl rfl rfl (by kernel_rfl) (ao_load (v := .slice _ _ _) Try.isAgg23 (by rfl) (by exact HLp) (by rfl) (by exact RFp)) (aa_take (i := 5) (listed' := q9_l50) rfl (by kernel_rfl) (by kernel_rfl) (by kernel_rfl) rfl rfl rfl (by kernel_rfl) hp (apm_sliceHi Try.underlying23 Try.sizeOf22 (by rfl) (by rfl) (by first | rfl | omega) (by exact HLp) (by rfl) (by exact IXp)) (q9_st_27 hkl hcc hlen hL hv h1 h2 hx hp hfin _ _ ⟨_, rfl, hk0, hk1, hk2, hk3, hk4, hn, rfl, rfl, rfl, rfl, rfl, rfl, rfl⟩))
  · exact aa_oL (listed' := q9_l78) rfl rfl rfl rfl (by kernel_rfl) (ao_alloca (zv27) (by rfl)) (q9_st_37 hkl hcc hlen hL hv h1 h2 hx hp hfin _ _ ⟨_, rfl, G.next, hk0.push (by omega) _, blk_push_old hk1, blk_push_old hk2, blk_push_old hk3, blk_push_old hk4, Nat.le_succ_of_le hn, hn, Nat.lt_succ_self _, blk_push_new _ _, rfl, rfl, rfl, rfl, rfl, rfl, rfl, rfl, rfl⟩)
  · exact aa_oL (listed' := q9_l80) rfl rfl rfl rfl (by kernel_rfl) (ao_alloca (zv27) (by rfl)) (q9_st_38 hkl hcc hlen hL hv h1 h2 hx hp hfin _ _ ⟨_, rfl, G.next, hk0.push (by omega) _, blk_push_old hk1, blk_push_old hk2, blk_push_old hk3, blk_push_old hk4, Nat.le_succ_of_le hn, hn, Nat.lt_succ_self _, blk_push_new _ _, rfl, rfl, rfl, rfl, rfl, rfl, rfl, rfl, rfl⟩)
set_option maxHeartbeats 4000000 in
theorem q9_st_44 {L : Int} {ks : List Int} {lb c' k : Nat} {x : Int} {H : AHeap} {Q : Exit → AFr → AHeap → Prop} (hkl : H.blk lb = some (.cells (fl i16 ks) 1)) (hcc : ks.length ≤ c') (hlen : ks.length ≤ 4194304) (hL : -32768 ≤ L ∧ L ≤ 32767) (hv : okRope L ks) (h1 : 0 < k) (h2 : k + 1 < ks.length) (hx : ks[k]? = some x) (hp : ∀ c fr G, ¬ Q (.panic c) fr G) (hfin : ∀ fr G, q9_J0 L ks lb c' k x H fr G → Q .normal fr G) : ∀ fr G, q9_J44 L ks lb c' k x H fr G → AA Try.prog ops_q9 Q 10 q9_l97 fr G := by
  have hlt0 := AHeap.lt hkl
  have ⟨v1, v2, v3, v4, v5, v6, v7⟩ := hv
  have bx := hv.bnd hx
  have hcl := cutB_len ks k x
  have htl : (ks.take (k + 1)).length = k + 1 := by simp; omega
  have hdl : (ks.drop k).length = ks.length - k := by simp
  rintro fr G ⟨get, rfl, b9, b10, hk0, hk1, hk2, hk3, hk4, hn, hl9, hu9, hc9, hl10, hu10, hc10, he9_10, g4, g5, g8, g44, g45, g48, g55, g56, g58, g9, g10⟩
  refine aa_slot (d := 4) (v := .pointer (some ⟨H.next + 1, 0, none⟩)) g4 ?_
  refine aa_slot (d := 5) (v := .pointer (some ⟨H.next + 2, 0, none⟩)) g5 ?_
  refine aa_slot (d := 8) (v := .int .i16 x) g8 ?_
  refine aa_slot (d := 44) (v := .int .i16 x) g44 ?_
  refine aa_slot (d := 45) (v := .pointer (some ⟨H.next, 0 + 1, none⟩)) g45 ?_
  refine aa_slot (d := 48) (v := .int .i64 ((k + 1 : Nat) : Int)) g48 ?_
  refine aa_slot (d := 55) (v := .int .i16 (L - x)) g55 ?_
  refine aa_slot (d := 56) (v := .pointer (some ⟨H.next, 0 + 1, none⟩)) g56 ?_
  refine aa_slot (d := 58) (v := .int .i64 k) g58 ?_
  refine aa_slot (d := 9) (v := .pointer (some ⟨b9, 0, none⟩)) g9 ?_
  refine aa_slot (d := 10) (v := .pointer (some ⟨b10, 0, none⟩)) g10 ?_
  refine aax2 (i := 2) (j := 13) (by kernel_rfl) ?_ ?_
  · exact aa_oL (listed' := q9_l98) rfl rfl rfl rfl (by kernel_rfl) (ao_load (v := .slice _ _ _) Try.isAgg23 (by rfl) (by exact HLp) (by rfl) (by exact RFp)) (aa_take (i := 5) (listed' := q9_l52) rfl (by kernel_rfl) (by kernel_rfl) (by kernel_rfl) rfl rfl rfl (by kernel_rfl) hp (apm_sliceHi Try.underlying23 Try.sizeOf22 (by rfl) (by rfl) (by first | rfl | omega) (by exact HLp) (by rfl) (by exact IXp)) (q9_st_28 hkl hcc hlen hL hv h1 h2 hx hp hfin _ _ ⟨_, rfl, b9, b10, hk0, hk1, hk2, hk3, hk4, hn, hl9, hu9, hc9, hl10, hu10, hc10, he9_10, rfl, rfl, rfl, rfl, rfl, rfl, rfl, rfl, rfl, rfl⟩))
  · exact aa_oL (listed' := q9_l99) rfl rfl rfl rfl (by kernel_rfl) (ao_load (v := .slice _ _ _) Try.isAgg23 (by rfl) (by exact HLp) (by rfl) (by exact RFp)) (aa_take (i := 15) (listed' := q9_l58) rfl (by kernel_rfl) (by kernel_rfl) (by kernel_rfl) rfl rfl rfl (by kernel_rfl) hp (apm_sliceLo Try.underlying23 Try.sizeOf22 (by rfl) (by rfl) (by first | rfl | omega) (by exact HLp) (by rfl) (by exact IXp)) (q9_st_30 hkl hcc hlen hL hv h1 h2 hx hp hfin _ _ ⟨_, rfl, b9, b10, hk0, hk1, hk2, hk3, hk4, hn, hl9, hu9, hc9, hl10, hu10, hc10, he9_10, rfl, rfl, rfl, rfl, rfl, rfl, rfl, rfl, rfl, rfl⟩))
set_option maxHeartbeats 4000000 in
theorem q9_st_45 {L : Int} {ks : List Int} {lb c' k : Nat} {x : Int} {H : AHeap} {Q : Exit → AFr → AHeap → Prop} (hkl : H.blk lb = some (.cells (fl i16 ks) 1)) (hcc : ks.length ≤ c') (hlen : ks.length ≤ 4194304) (hL : -32768 ≤ L ∧ L ≤ 32767) (hv : okRope L ks) (h1 : 0 < k) (h2 : k + 1 < ks.length) (hx : ks[k]? = some x) (hp : ∀ c fr G, ¬ Q (.panic c) fr G) (hfin : ∀ fr G, q9_J0 L ks lb c' k x H fr G → Q .normal fr G) : ∀ fr G, q9_J45 L ks lb c' k x H fr G → AA Try.prog ops_q9 Q 10 q9_l100 fr G := by
  have hlt0 := AHeap.lt hkl
  have ⟨v1, v2, v3, v4, v5, v6, v7⟩ := hv
  have bx := hv.bnd hx
  have hcl := cutB_len ks k x
  have htl : (ks.take (k + 1)).length = k + 1 := by simp; omega
  have hdl : (ks.drop k).length = ks.length - k := by simp
  rintro fr G ⟨get, rfl, b9, b10, hk0, hk1, hk2, hk3, hk4, hn, hl9, hu9, hc9, hl10, hu10, hc10, he9_10, g4, g5, g8, g44, g45, g48, g52, g54, g59, g9, g10⟩
  refine aa_slot (d := 4) (v := .pointer (some ⟨H.next + 1, 0, none⟩)) g4 ?_
  refine aa_slot (d := 5) (v := .pointer (some ⟨H.next + 2, 0, none⟩)) g5 ?_
  refine aa_slot (d := 8) (v := .int .i16 x) g8 ?_
  refine aa_slot (d := 44) (v := .int .i16 x) g44 ?_
  refine aa_slot (d := 45) (v := .pointer (some ⟨H.next, 0 + 1, none⟩)) g45 ?_
  refine aa_slot (d := 48) (v := .int .i64 ((k + 1 : Nat) : Int)) g48 ?_
  refine aa_slot (d := 52) (v := .pointer (some ⟨H.next, 0 + 0, none⟩)) g52 ?_
  refine aa_slot (d := 54) (v := .int .i16 x) g54 ?_
  refine aa_slot (d := 59) (v := .slice (some ⟨lb, 0 + k * 1, none⟩) (ks.length - k) (ks.length - k + 1)) g59 ?_
  refine aa_slot (d := 9) (v := .pointer (some ⟨b9, 0, none⟩)) g9 ?_
  refine aa_slot (d := 10) (v := .pointer (some ⟨b10, 0, none⟩)) g10 ?_
  refine aax2 (i := 2) (j := 9) (by kernel_rfl) ?_ ?_
  · exact aa_oL (listed' := q9_l101) rfl rfl rfl rfl (by kernel_rfl) (ao_load (v := .slice _ _ _) Try.isAgg23 (by rfl) (by exact HLp) (by rfl) (by exact RFp)) (aa_take (i := 5) (listed' := q9_l55) rfl (by kernel_rfl) (by kernel_rfl) (by kernel_rfl) rfl rfl rfl (by kernel_rfl) hp (apm_sliceHi Try.underlying23 Try.sizeOf22 (by rfl) (by rfl) (by first | rfl | omega) (by exact HLp) (by rfl) (by exact IXp)) (q9_st_29 hkl hcc hlen hL hv h1 h2 hx hp hfin _ _ ⟨_, rfl, b9, b10, hk0, hk1, hk2, hk3, hk4, hn, hl9, hu9, hc9, hl10, hu10, hc10, he9_10, rfl, rfl, rfl, rfl, rfl, rfl, rfl, rfl, rfl, rfl⟩))
  · exact aa_oL (listed' := q9_l102) rfl rfl rfl rfl (by kernel_rfl) (ao_load (v := .int _ _) Try.isAgg22 (by rfl) (by exact HLp) (by rfl) (by exact RFp)) (aa_take (i := 11) (listed' := q9_l58) rfl (by kernel_rfl) (by kernel_rfl) (by kernel_rfl) rfl rfl rfl (by kernel_rfl) hp ((apm_sub rfl rfl).val (nw_i16 BDp BDp)) (q9_st_30 hkl hcc hlen hL hv h1 h2 hx hp hfin _ _ ⟨_, rfl, b9, b10, hk0, hk1, hk2, hk3, hk4, hn, hl9, hu9, hc9, hl10, hu10, hc10, he9_10, rfl, rfl, rfl, rfl, rfl, rfl, rfl, rfl, rfl, rfl⟩))
set_option maxHeartbeats 4000000 in
theorem q9_st_46 {L : Int} {ks : List Int} {lb c' k : Nat} {x : Int} {H : AHeap} {Q : Exit → AFr → AHeap → Prop} (hkl : H.blk lb = some (.cells (fl i16 ks) 1)) (hcc : ks.length ≤ c') (hlen : ks.length ≤ 4194304) (hL : -32768 ≤ L ∧ L ≤ 32767) (hv : okRope L ks) (h1 : 0 < k) (h2 : k + 1 < ks.length) (hx : ks[k]? = some x) (hp : ∀ c fr G, ¬ Q (.panic c) fr G) (hfin : ∀ fr G, q9_J0 L ks lb c' k x H fr G → Q .normal fr G) : ∀ fr G, q9_J46 L ks lb c' k x H fr G → AA Try.prog ops_q9 Q 11 q9_l103 fr G := by
  have hlt0 := AHeap.lt hkl
  have ⟨v1, v2, v3, v4, v5, v6, v7⟩ := hv
  have bx := hv.bnd hx
  have hcl := cutB_len ks k x
  have htl : (ks.take (k + 1)).length = k + 1 := by simp; omega
  have hdl : (ks.drop k).length = ks.length - k := by simp
  rintro fr G ⟨get, rfl, b9, hk0, hk1, hk2, hk3, hk4, hn, hl9, hu9, hc9, g4, g5, g8, g44, g49, g52, g54, g56, g58, g9⟩
  refine aa_slot (d := 4) (v := .pointer (some ⟨H.next + 1, 0, none⟩)) g4 ?_
  refine aa_slot (d := 5) (v := .pointer (some ⟨H.next + 2, 0, none⟩)) g5 ?_
  refine aa_slot (d := 8) (v := .int .i16 x) g8 ?_
  refine aa_slot (d := 44) (v := .int .i16 x) g44 ?_
  refine aa_slot (d := 49) (v := .slice (some ⟨lb, 0, none⟩) (k + 1) (k + 1 + 1)) g49 ?_
  refine aa_slot (d := 52) (v := .pointer (some ⟨H.next, 0 + 0, none⟩)) g52 ?_
  refine aa_slot (d := 54) (v := .int .i16 x) g54 ?_
  refine aa_slot (d := 56) (v := .pointer (some ⟨H.next, 0 + 1, none⟩)) g56 ?_
  refine aa_slot (d := 58) (v := .int .i64 k) g58 ?_
  refine aa_slot (d := 9) (v := .pointer (some ⟨b9, 0, none⟩)) g9 ?_
  refine aax4 (i := 6) (j := 9) (l := 13) (o := 19) (by kernel_rfl) ?_ ?_ ?_ ?_
  · exact aa_oL (listed' := q9_l104) rfl rfl rfl rfl (by kernel_rfl) (ao_calld (cloneI16n_c (l := ks.take (k + 1)) (n := k + 1) (Sl.part (i := 0) i16_len (by exact HLp) rfl rfl (by simp) rfl (by simp; omega)) (by omega) (by omega)) Try.call26 rfl rfl) (aa_take (i := 7) (listed' := q9_l60) rfl (by kernel_rfl) (by kernel_rfl) (by kernel_rfl) rfl rfl rfl (by kernel_rfl) hp (apm_build (A := #[.int .i16 x, .slice (some ⟨G.next, 0, none⟩) (ks.take (k + 1)).length ((ks.take (k + 1)).length + 1)]) Try.zeroValue27 (by rfl) Try.underlying27 (by kernel_rfl) (by rfl) (by first | rfl | kernel_rfl)) (q9_st_31 hkl hcc hlen hL hv h1 h2 hx hp hfin _ _ ⟨_, rfl, G.next, b9, hk0.push (by omega) _, blk_push_old hk1, blk_push_old hk2, blk_push_old hk3, blk_push_old hk4, Nat.le_succ_of_le hn, hn, Nat.lt_succ_self _, blk_push_new _ _, hl9, Nat.lt_succ_of_lt hu9, blk_push_old hc9, (Nat.ne_of_gt hu9), rfl, rfl, rfl, rfl, rfl, rfl, rfl, rfl, rfl⟩))
  · exact aa_oL (listed' := q9_l105) rfl rfl rfl rfl (by kernel_rfl) (ao_load (v := .int _ _) Try.isAgg22 (by rfl) (by exact HLp) (by rfl) (by exact RFp)) (aa_take (i := 11) (listed' := q9_l66) rfl (by kernel_rfl) (by kernel_rfl) (by kernel_rfl) rfl rfl rfl (by kernel_rfl) hp ((apm_sub rfl rfl).val (nw_i16 BDp BDp)) (q9_st_33 hkl hcc hlen hL hv h1 h2 hx hp hfin _ _ ⟨_, rfl, b9, hk0, hk1, hk2, hk3, hk4, hn, hl9, hu9, hc9, rfl, rfl, rfl, rfl, rfl, rfl, rfl, rfl, rfl⟩))
  · exact aa_oL (listed' := q9_l106) rfl rfl rfl rfl (by kernel_rfl) (ao_load (v := .slice _ _ _) Try.isAgg23 (by rfl) (by exact HLp) (by rfl) (by exact RFp)) (aa_take (i := 15) (listed' := q9_l72) rfl (by kernel_rfl) (by kernel_rfl) (by kernel_rfl) rfl rfl rfl (by kernel_rfl) hp (apm_sliceLo Try.underlying23 Try.sizeOf22 (by rfl) (by rfl) (by first | rfl | omega) (by exact HLp) (by rfl) (by exact IXp)) (q9_st_35 hkl hcc hlen hL hv h1 h2 hx hp hfin _ _ ⟨_, rfl, b9, hk0, hk1, hk2, hk3, hk4, hn, hl9, hu9, hc9, rfl, rfl, rfl, rfl, rfl, rfl, rfl, rfl, rfl⟩))
  · exact aa_oL (listed' := q9_l91) rfl rfl rfl rfl (by kernel_rfl) (ao_alloca (zv27) (by rfl)) (q9_st_42 hkl hcc hlen hL hv h1 h2 hx hp hfin _ _ ⟨_, rfl, b9, G.next, hk0.push (by omega) _, blk_push_old hk1, blk_push_old hk2, blk_push_old hk3, blk_push_old hk4, Nat.le_succ_of_le hn, hl9, Nat.lt_succ_of_lt hu9, blk_push_old hc9, hn, Nat.lt_succ_self _, blk_push_new _ _, Nat.ne_of_lt hu9, rfl, rfl, rfl, rfl, rfl, rfl, rfl, rfl, rfl, rfl, rfl⟩)
set_option maxHeartbeats 4000000 in
theorem q9_st_47 {L : Int} {ks : List Int} {lb c' k : Nat} {x : Int} {H : AHeap} {Q : Exit → AFr → AHeap → Prop} (hkl : H.blk lb = some (.cells (fl i16 ks) 1)) (hcc : ks.length ≤ c') (hlen : ks.length ≤ 4194304) (hL : -32768 ≤ L ∧ L ≤ 32767) (hv : okRope L ks) (h1 : 0 < k) (h2 : k + 1 < ks.length) (hx : ks[k]? = some x) (hp : ∀ c fr G, ¬ Q (.panic c) fr G) (hfin : ∀ fr G, q9_J0 L ks lb c' k x H fr G → Q .normal fr G) : ∀ fr G, q9_J47 L ks lb c' k x H fr G → AA Try.prog ops_q9 Q 11 q9_l107 fr G := by
  have hlt0 := AHeap.lt hkl
  have ⟨v1, v2, v3, v4, v5, v6, v7⟩ := hv
  have bx := hv.bnd hx
  have hcl := cutB_len ks k x
  have htl : (ks.take (k + 1)).length = k + 1 := by simp; omega
  have hdl : (ks.drop k).length = ks.length - k := by simp
  rintro fr G ⟨get, rfl, b10, hk0, hk1, hk2, hk3, hk4, hn, hl10, hu10, hc10, g4, g5, g8, g44, g49, g52, g54, g56, g58, g10⟩
  refine aa_slot (d := 4) (v := .pointer (some ⟨H.next + 1, 0, none⟩)) g4 ?_
  refine aa_slot (d := 5) (v := .pointer (some ⟨H.next + 2, 0, none⟩)) g5 ?_
  refine aa_slot (d := 8) (v := .int .i16 x) g8 ?_
  refine aa_slot (d := 44) (v := .int .i16 x) g44 ?_
  refine aa_slot (d := 49) (v := .slice (some ⟨lb, 0, none⟩) (k + 1) (k + 1 + 1)) g49 ?_
  refine aa_slot (d := 52) (v := .pointer (some ⟨H.next, 0 + 0, none⟩)) g52 ?_
  refine aa_slot (d := 54) (v := .int .i16 x) g54 ?_
  refine aa_slot (d := 56) (v := .pointer (some ⟨H.next, 0 + 1, none⟩)) g56 ?_
  refine aa_slot (d := 58) (v := .int .i64 k) g58 ?_
  refine aa_slot (d := 10) (v := .pointer (some ⟨b10, 0, none⟩)) g10 ?_
  refine aax4 (i := 6) (j := 9) (l := 13) (o := 18) (by kernel_rfl) ?_ ?_ ?_ ?_
  · exact aa_oL (listed' := q9_l108) rfl rfl rfl rfl (by kernel_rfl) (ao_calld (cloneI16n_c (l := ks.take (k + 1)) (n := k + 1) (Sl.part (i := 0) i16_len (by exact HLp) rfl rfl (by simp) rfl (by simp; omega)) (by omega) (by omega)) Try.call26 rfl rfl) (aa_take (i := 7) (listed' := q9_l63) rfl (by kernel_rfl) (by kernel_rfl) (by kernel_rfl) rfl rfl rfl (by kernel_rfl) hp (apm_build (A := #[.int .i16 x, .slice (some ⟨G.next, 0, none⟩) (ks.take (k + 1)).length ((ks.take (k + 1)).length + 1)]) Try.zeroValue27 (by rfl) Try.underlying27 (by kernel_rfl) (by rfl) (by first | rfl | kernel_rfl)) (q9_st_32 hkl hcc hlen hL hv h1 h2 hx hp hfin _ _ ⟨_, rfl, G.next, b10, hk0.push (by omega) _, blk_push_old hk1, blk_push_old hk2, blk_push_old hk3, blk_push_old hk4, Nat.le_succ_of_le hn, hn, Nat.lt_succ_self _, blk_push_new _ _, hl10, Nat.lt_succ_of_lt hu10, blk_push_old hc10, (Nat.ne_of_gt hu10), rfl, rfl, rfl, rfl, rfl, rfl, rfl, rfl, rfl⟩))
  · exact aa_oL (listed' := q9_l109) rfl rfl rfl rfl (by kernel_rfl) (ao_load (v := .int _ _) Try.isAgg22 (by rfl) (by exact HLp) (by rfl) (by exact RFp)) (aa_take (i := 11) (listed' := q9_l69) rfl (by kernel_rfl) (by kernel_rfl) (by kernel_rfl) rfl rfl rfl (by kernel_rfl) hp ((apm_sub rfl rfl).val (nw_i16 BDp BDp)) (q9_st_34 hkl hcc hlen hL hv h1 h2 hx hp hfin _ _ ⟨_, rfl, b10, hk0, hk1, hk2, hk3, hk4, hn, hl10, hu10, hc10, rfl, rfl, rfl, rfl, rfl, rfl, rfl, rfl, rfl⟩))
  · exact aa_oL (listed' := q9_l110) rfl rfl rfl rfl (by kernel_rfl) (ao_load (v := .slice _ _ _) Try.isAgg23 (by rfl) (by exact HLp) (by rfl) (by exact RFp)) (aa_take (i := 15) (listed' := q9_l75) rfl (by kernel_rfl) (by kernel_rfl) (by kernel_rfl) rfl rfl rfl (by kernel_rfl) hp (apm_sliceLo Try.underlying23 Try.sizeOf22 (by rfl) (by rfl) (by first | rfl | omega) (by exact HLp) (by rfl) (by exact IXp)) (q9_st_36 hkl hcc hlen hL hv h1 h2 hx hp hfin _ _ ⟨_, rfl, b10, hk0, hk1, hk2, hk3, hk4, hn, hl10, hu10, hc10, rfl, rfl, rfl, rfl, rfl, rfl, rfl, rfl, rfl⟩))
  · exact aa_oL (listed' := q9_l91) rfl rfl rfl rfl (by kernel_rfl) (ao_alloca (zv27) (by rfl)) (q9_st_42 hkl hcc hlen hL hv h1 h2 hx hp hfin _ _ ⟨_, rfl, G.next, b10, hk0.push (by omega) _, blk_push_old hk1, blk_push_old hk2, blk_push_old hk3, blk_push_old hk4, Nat.le_succ_of_le hn, hn, Nat.lt_succ_self _, blk_push_new _ _, hl10, Nat.lt_succ_of_lt hu10, blk_push_old hc10, (Nat.ne_of_gt hu10), rfl, rfl, rfl, rfl, rfl, rfl, rfl, rfl, rfl, rfl, rfl⟩)
set_option maxHeartbeats 4000000 in
theorem q9_st_48 {L : Int} {ks : List Int} {lb c' k : Nat} {x : Int} {H : AHeap} {Q : Exit → AFr → AHeap → Prop} (hkl : H.blk lb = some (.cells (fl i16 ks) 1)) (hcc : ks.length ≤ c') (hlen : ks.length ≤ 4194304) (hL : -32768 ≤ L ∧ L ≤ 32767) (hv : okRope L ks) (h1 : 0 < k) (h2 : k + 1 < ks.length) (hx : ks[k]? = some x) (hp : ∀ c fr G, ¬ Q (.panic c) fr G) (hfin : ∀ fr G, q9_J0 L ks lb c' k x H fr G → Q .normal fr G) : ∀ fr G, q9_J48 L ks lb c' k x H fr G → AA Try.prog ops_q9 Q 11 q9_l111 fr G := by
  have hlt0 := AHeap.lt hkl
  have ⟨v1, v2, v3, v4, v5, v6, v7⟩ := hv
  have bx := hv.bnd hx
  have hcl := cutB_len ks k x
  have htl : (ks.take (k + 1)).length = k + 1 := by simp; omega
  have hdl : (ks.drop k).length = ks.length - k := by simp
  rintro fr G ⟨get, rfl, b9, hk0, hk1, hk2, hk3, hk4, hn, hl9, hu9, hc9, g4, g5, g8, g44, g45, g48, g55, g56, g58, g9⟩
  refine aa_slot (d := 4) (v := .pointer (some ⟨H.next + 1, 0, none⟩)) g4 ?_
  refine aa_slot (d := 5) (v := .pointer (some ⟨H.next + 2, 0, none⟩)) g5 ?_
  refine aa_slot (d := 8) (v := .int .i16 x) g8 ?_
  refine aa_slot (d := 44) (v := .int .i16 x) g44 ?_
  refine aa_slot (d := 45) (v := .pointer (some ⟨H.next, 0 + 1, none⟩)) g45 ?_
  refine aa_slot (d := 48) (v := .int .i64 ((k + 1 : Nat) : Int)) g48 ?_
  refine aa_slot (d := 55) (v := .int .i16 (L - x)) g55 ?_
  refine aa_slot (d := 56) (v := .pointer (some ⟨H.next, 0 + 1, none⟩)) g56 ?_
  refine aa_slot (d := 58) (v := .int .i64 k) g58 ?_
  refine aa_slot (d := 9) (v := .pointer (some ⟨b9, 0, none⟩)) g9 ?_
  refine aax3 (i := 2) (j := 13) (l := 19) (by kernel_rfl) ?_ ?_ ?_
  · exact aa_oL (listed' := q9_l112) rfl rfl rfl rfl (by kernel_rfl) (ao_load (v := .slice _ _ _) Try.isAgg23 (by rfl) (by exact HLp) (by rfl) (by exact RFp)) (aa_take (i := 5) (listed' := q9_l66) rfl (by kernel_rfl) (by kernel_rfl) (by kernel_rfl) rfl rfl rfl (by kernel_rfl) hp (apm_sliceHi Try.underlying23 Try.sizeOf22 (by rfl) (by rfl) (by first | rfl | omega) (by exact HLp) (by rfl) (by exact IXp)) (q9_st_33 hkl hcc hlen hL hv h1 h2 hx hp hfin _ _ ⟨_, rfl, b9, hk0, hk1, hk2, hk3, hk4, hn, hl9, hu9, hc9, rfl, rfl, rfl, rfl, rfl, rfl, rfl, rfl, rfl⟩))
  · exact aa_oL (listed' := q9_l113) rfl rfl rfl rfl (by kernel_rfl) (ao_load (v := .slice _ _ _) Try.isAgg23 (by rfl) (by exact HLp) (by rfl) (by exact RFp)) (aa_take (i := 15) (listed' := q9_l78) rfl (by kernel_rfl) (by kernel_rfl) (by kernel_rfl) rfl rfl rfl (by kernel_rfl) hp (apm_sliceLo Try.underlying23 Try.sizeOf22 (by rfl) (by rfl) (by first | rfl | omega) (by exact HLp) (by rfl) (by exact IXp)) (q9_st_37 hkl hcc hlen hL hv h1 h2 hx hp hfin _ _ ⟨_, rfl, b9, hk0, hk1, hk2, hk3, hk4, hn, hl9, hu9, hc9, rfl, rfl, rfl, rfl, rfl, rfl, rfl, rfl, rfl⟩))
  · exact aa_oL (listed' := q9_l97) rfl rfl rfl rfl (by kernel_rfl) (ao_alloca (zv27) (by rfl)) (q9_st_44 hkl hcc hlen hL hv h1 h2 hx hp hfin _ _ ⟨_, rfl, b9, G.next, hk0.push (by omega) _, blk_push_old hk1, blk_push_old hk2, blk_push_old hk3, blk_push_old hk4, Nat.le_succ_of_le hn, hl9, Nat.lt_succ_of_lt hu9, blk_push_old hc9, hn, Nat.lt_succ_self _, blk_push_new _ _, Nat.ne_of_lt hu9, rfl, rfl, rfl, rfl, rfl, rfl, rfl, rfl, rfl, rfl, rfl⟩)
set_option maxHeartbeats 4000000 in
theorem q9_st_49 {L : Int} {ks : List Int} {lb c' k : Nat} {x : Int} {H : AHeap} {Q : Exit → AFr → AHeap → Prop} (hkl : H.blk lb = some (.cells (fl i16 ks) 1)) (hcc : ks.length ≤ c') (hlen : ks.length ≤ 4194304) (hL : -32768 ≤ L ∧ L ≤ 32767) (hv : okRope L ks) (h1 : 0 < k) (h2 : k + 1 < ks.length) (hx : ks[k]? = some x) (hp : ∀ c fr G, ¬ Q (.panic c) fr G) (hfin : ∀ fr G, q9_J0 L ks lb c' k x H fr G → Q .normal fr G) : ∀ fr G, q9_J49 L ks lb c' k x H fr G → AA Try.prog ops_q9 Q 11 q9_l114 fr G := by
  have hlt0 := AHeap.lt hkl
  have ⟨v1, v2, v3, v4, v5, v6, v7⟩ := hv
  have bx := hv.bnd hx
  have hcl := cutB_len ks k x
  have htl : (ks.take (k + 1)).length = k + 1 := by simp; omega
  have hdl : (ks.drop k).length = ks.length - k := by simp
  rintro fr G ⟨get, rfl, b10, hk0, hk1, hk2, hk3, hk4, hn, hl10, hu10, hc10, g4, g5, g8, g44, g45, g48, g55, g56, g58, g10⟩
  refine aa_slot (d := 4) (v := .pointer (some ⟨H.next + 1, 0, none⟩)) g4 ?_
  refine aa_slot (d := 5) (v := .pointer (some ⟨H.next + 2, 0, none⟩)) g5 ?_
  refine aa_slot (d := 8) (v := .int .i16 x) g8 ?_
  refine aa_slot (d := 44) (v := .int .i16 x) g44 ?_
  refine aa_slot (d := 45) (v := .pointer (some ⟨H.next, 0 + 1, none⟩)) g45 ?_
  refine aa_slot (d := 48) (v := .int .i64 ((k + 1 : Nat) : Int)) g48 ?_
  refine aa_slot (d := 55) (v := .int .i16 (L - x)) g55 ?_
  refine aa_slot (d := 56) (v := .pointer (some ⟨H.next, 0 + 1, none⟩)) g56 ?_
  refine aa_slot (d := 58) (v := .int .i64 k) g58 ?_
  refine aa_slot (d := 10) (v := .pointer (some ⟨b10, 0, none⟩)) g10 ?_
  refine aax3 (i := 2) (j := 13) (l := 18) (by kernel_rfl) ?_ ?_ ?_
  · exact aa_oL (listed' := q9_l115) rfl rfl rfl rfl (by kernel_rfl) (ao_load (v := .slice _ _ _) Try.isAgg23 (by rfl) (by exact HLp) (by rfl) (by exact RFp)) (aa_take (i := 5) (listed' := q9_l69) rfl (by kernel_rfl) (by kernel_rfl) (by kernel_rfl) rfl rfl rfl (by kernel_rfl) hp (apm_sliceHi Try.underlying23 Try.sizeOf22 (by rfl) (by rfl) (by first | rfl | omega) (by exact HLp) (by rfl) (by exact IXp)) (q9_st_34 hkl hcc hlen hL hv h1 h2 hx hp hfin _ _ ⟨_, rfl, b10, hk0, hk1, hk2, hk3, hk4, hn, hl10, hu10, hc10, rfl, rfl, rfl, rfl, rfl, rfl, rfl, rfl, rfl⟩))
  · exact aa_oL (listed' := q9_l116) rfl rfl rfl rfl (by kernel_rfl) (ao_load (v := .slice _ _ _) Try.isAgg23 (by rfl) (by exact HLp) (by rfl) (by exact RFp)) (aa_take (i := 15) (listed' := q9_l80) rfl (by kernel_rfl) (by kernel_rfl) (by kernel_rfl) rfl rfl rfl (by kernel_rfl) hp (apm_sliceLo Try.underlying23 Try.sizeOf22 (by rfl) (by rfl) (by first | rfl | omega) (by exact HLp) (by rfl) (by exact IXp)) (q9_st_38 hkl hcc hlen hL hv h1 h2 hx hp hfin _ _ ⟨_, rfl, b10, hk0, hk1, hk2, hk3, hk4, hn, hl10, hu10, hc10, rfl, rfl, rfl, rfl, rfl, rfl, rfl, rfl, rfl⟩))
  · exact aa_oL (listed' := q9_l97) rfl rfl rfl rfl (by kernel_rfl) (ao_alloca (zv27) (by rfl)) (q9_st_44 hkl hcc hlen hL hv h1 h2 hx hp hfin _ _ ⟨_, rfl, G.next, b10, hk0.push (by omega) _, blk_push_old hk1, blk_push_old hk2, blk_push_old hk3, blk_push_old hk4, Nat.le_succ_of_le hn, hn, Nat.lt_succ_self _, blk_push_new _ _, hl10, Nat.lt_succ_of_lt hu10, blk_push_old hc10, (Nat.ne_of_gt hu10), rfl, rfl, rfl, rfl, rfl, rfl, rfl, rfl, rfl, rfl, rfl⟩)
set_option maxHeartbeats 4000000 in
theorem q9_st_50 {L : Int} {ks : List Int} {lb c' k : Nat} {x : Int} {H : AHeap} {Q : Exit → AFr → AHeap → Prop} (hkl : H.blk lb = some (.cells (fl i16 ks) 1)) (hcc : ks.length ≤ c') (hlen : ks.length ≤ 4194304) (hL : -32768 ≤ L ∧ L ≤ 32767) (hv : okRope L ks) (h1 : 0 < k) (h2 : k + 1 < ks.length) (hx : ks[k]? = some x) (hp : ∀ c fr G, ¬ Q (.panic c) fr G) (hfin : ∀ fr G, q9_J0 L ks lb c' k x H fr G → Q .normal fr G) : ∀ fr G, q9_J50 L ks lb c' k x H fr G → AA Try.prog ops_q9 Q 11 q9_l117 fr G := by
  have hlt0 := AHeap.lt hkl
  have ⟨v1, v2, v3, v4, v5, v6, v7⟩ := hv
  have bx := hv.bnd hx
  have hcl := cutB_len ks k x
  have htl : (ks.take (k + 1)).length = k + 1 := by simp; omega
  have hdl : (ks.drop k).length = ks.length - k := by simp
  rintro fr G ⟨get, rfl, b9, hk0, hk1, hk2, hk3, hk4, hn, hl9, hu9, hc9, g4, g5, g8, g44, g45, g48, g52, g54, g59, g9⟩
  refine aa_slot (d := 4) (v := .pointer (some ⟨H.next + 1, 0, none⟩)) g4 ?_
  refine aa_slot (d := 5) (v := .pointer (some ⟨H.next + 2, 0, none⟩)) g5 ?_
  refine aa_slot (d := 8) (v := .int .i16 x) g8 ?_
  refine aa_slot (d := 44) (v := .int .i16 x) g44 ?_
  refine aa_slot (d := 45) (v := .pointer (some ⟨H.next, 0 + 1, none⟩)) g45 ?_
  refine aa_slot (d := 48) (v := .int .i64 ((k + 1 : Nat) : Int)) g48 ?_
  refine aa_slot (d := 52) (v := .pointer (some ⟨H.next, 0 + 0, none⟩)) g52 ?_
  refine aa_slot (d := 54) (v := .int .i16 x) g54 ?_
  refine aa_slot (d := 59) (v := .slice (some ⟨lb, 0 + k * 1, none⟩) (ks.length - k) (ks.length - k + 1)) g59 ?_
  refine aa_slot (d := 9) (v := .pointer (some ⟨b9, 0, none⟩)) g9 ?_
  refine aax3 (i := 2) (j := 9) (l := 19) (by kernel_rfl) ?_ ?_ ?_
  · exact aa_oL (listed' := q9_l118) rfl rfl rfl rfl (by kernel_rfl) (ao_load (v := .slice _ _ _) Try.isAgg23 (by rfl) (by exact HLp) (by rfl) (by exact RFp)) (aa_take (i := 5) (listed' := q9_l72) rfl (by kernel_rfl) (by kernel_rfl) (by kernel_rfl) rfl rfl rfl (by kernel_rfl) hp (apm_sliceHi Try.underlying23 Try.sizeOf22 (by rfl) (by rfl) (by first | rfl | omega) (by exact HLp) (by rfl) (by exact IXp)) (q9_st_35 hkl hcc hlen hL hv h1 h2 hx hp hfin _ _ ⟨_, rfl, b9, hk0, hk1, hk2, hk3, hk4, hn, hl9, hu9, hc9, rfl, rfl, rfl, rfl, rfl, rfl, rfl, rfl, rfl⟩))
  · exact aa_oL (listed' := q9_l119) rfl rfl rfl rfl (by kernel_rfl) (ao_load (v := .int _ _) Try.isAgg22 (by rfl) (by exact HLp) (by rfl) (by exact RFp)) (aa_take (i := 11) (listed' := q9_l78) rfl (by kernel_rfl) (by kernel_rfl) (by kernel_rfl) rfl rfl rfl (by kernel_rfl) hp ((apm_sub rfl rfl).val (nw_i16 BDp BDp)) (q9_st_37 hkl hcc hlen hL hv h1 h2 hx hp hfin _ _ ⟨_, rfl, b9, hk0, hk1, hk2, hk3, hk4, hn, hl9, hu9, hc9, rfl, rfl, rfl, rfl, rfl, rfl, rfl, rfl, rfl⟩))
  · exact aa_oL (listed' := q9_l100) rfl rfl rfl rfl (by kernel_rfl) (ao_alloca (zv27) (by rfl)) (q9_st_45 hkl hcc hlen hL hv h1 h2 hx hp hfin _ _ ⟨_, rfl, b9, G.next, hk0.push (by omega) _, blk_push_old hk1, blk_push_old hk2, blk_push_old hk3, blk_push_old hk4, Nat.le_succ_of_le hn, hl9, Nat.lt_succ_of_lt hu9, blk_push_old hc9, hn, Nat.lt_succ_self _, blk_push_new _ _, Nat.ne_of_lt hu9, rfl, rfl, rfl, rfl, rfl, rfl, rfl, rfl, rfl, rfl, rfl⟩)
set_option maxHeartbeats 4000000 in
theorem q9_st_51 {L : Int} {ks : List Int} {lb c' k : Nat} {x : Int} {H : AHeap} {Q : Exit → AFr → AHeap → Prop} (hkl : H.blk lb = some (.cells (fl i16 ks) 1)) (hcc : ks.length ≤ c') (hlen : ks.length ≤ 4194304) (hL : -32768 ≤ L ∧ L ≤ 32767) (hv : okRope L ks) (h1 : 0 < k) (h2 : k + 1 < ks.length) (hx : ks[k]? = some x) (hp : ∀ c fr G, ¬ Q (.panic c) fr G) (hfin : ∀ fr G, q9_J0 L ks lb c' k x H fr G → Q .normal fr G) : ∀ fr G, q9_J51 L ks lb c' k x H fr G → AA Try.prog ops_q9 Q 11 q9_l120 fr G := by
  have hlt0 := AHeap.lt hkl
  have ⟨v1, v2, v3, v4, v5, v6, v7⟩ := hv
  have bx := hv.bnd hx
  have hcl := cutB_len ks k x
  have htl : (ks.take (k + 1)).length = k + 1 := by simp; omega
  have hdl : (ks.drop k).length = ks.length - k := by simp
  rintro fr G ⟨get, rfl, b10, hk0, hk1, hk2, hk3, hk4, hn, hl10, hu10, hc10, g4, g5, g8, g44, g45, g48, g52, g54, g59, g10⟩
  refine aa_slot (d := 4) (v := .pointer (some ⟨H.next + 1, 0, none⟩)) g4 ?_
  refine aa_slot (d := 5) (v := .pointer (some ⟨H.next + 2, 0, none⟩)) g5 ?_
  refine aa_slot (d := 8) (v := .int .i16 x) g8 ?_
  refine aa_slot (d := 44) (v := .int .i16 x) g44 ?_
  refine aa_slot (d := 45) (v := .pointer (some ⟨H.next, 0 + 1, none⟩)) g45 ?_
  refine aa_slot (d := 48) (v := .int .i64 ((k + 1 : Nat) : Int)) g48 ?_
  refine aa_slot (d := 52) (v := .pointer (some ⟨H.next, 0 + 0, none⟩)) g52 ?_
  refine aa_slot (d := 54) (v := .int .i16 x) g54 ?_
  refine aa_slot (d := 59) (v := .slice (some ⟨lb, 0 + k * 1, none⟩) (ks.length - k) (ks.length - k + 1)) g59 ?_
  refine aa_slot (d := 10) (v := .pointer (some ⟨b10, 0, none⟩)) g10 ?_
  refine aax3 (i := 2) (j := 9) (l := 18) (by kernel_rfl) ?_ ?_ ?_
  · exact aa_oL (listed' := q9_l121) rfl rfl rfl rfl (by kernel_rfl) (ao_load (v := .slice _ _ _) Try.isAgg23 (by rfl) (by exact HLp) (by rfl) (by exact RFp)) (aa_take (i := 5) (listed' := q9_l75) rfl (by kernel_rfl) (by kernel_rfl) (by kernel_rfl) rfl rfl rfl (by kernel_rfl) hp (apm_sliceHi Try.underlying23 Try.sizeOf22 (by rfl) (by rfl) (by first | rfl | omega) (by exact HLp) (by rfl) (by exact IXp)) (q9_st_36 hkl hcc hlen hL hv h1 h2 hx hp hfin _ _ ⟨_, rfl, b10, hk0, hk1, hk2, hk3, hk4, hn, hl10, hu10, hc10, rfl, rfl, rfl, rfl, rfl, rfl, rfl, rfl, rfl⟩))
  · exact aa_oL (listed' := q9_l122) rfl rfl rfl rfl (by kernel_rfl) (ao_load (v := .int _ _) Try.isAgg22 (by rfl) (by exact HLp) (by rfl) (by exact RFp)) (aa_take (i := 11) (listed' := q9_l80) rfl (by kernel_rfl) (by kernel_rfl) (by kernel_rfl) rfl rfl rfl (by kernel_rfl) hp ((apm_sub rfl rfl).val (nw_i16 BDp BDp)) (q9_st_38 hkl hcc hlen hL hv h1 h2 hx hp hfin _ _ ⟨_, rfl, b10, hk0, hk1, hk2, hk3, hk4, hn, hl10, hu10, hc10, rfl, rfl, rfl, rfl, rfl, rfl, rfl, rfl, rfl⟩))
  · exact aa_oL (listed' := q9_l100) rfl rfl rfl rfl (by kernel_rfl) (ao_alloca (zv27) (by rfl)) (q9_st_45 hkl hcc hlen hL hv h1 h2 hx hp hfin _ _ ⟨_, rfl, G.next, b10, hk0.push (by omega) _, blk_push_old hk1, blk_push_old hk2, blk_push_old hk3, blk_push_old hk4, Nat.le_succ_of_le hn, hn, Nat.lt_succ_self _, blk_push_new _ _, hl10, Nat.lt_succ_of_lt hu10, blk_push_old hc10, (Nat.ne_of_gt hu10), rfl, rfl, rfl, rfl, rfl, rfl, rfl, rfl, rfl, rfl, rfl⟩)
set_option maxHeartbeats 4000000 in
theorem q9_st_52 {L : Int} {ks : List Int} {lb c' k : Nat} {x : Int} {H : AHeap} {Q : Exit → AFr → AHeap → Prop} (hkl : H.blk lb = some (.cells (fl i16 ks) 1)) (hcc : ks.length ≤ c') (hlen : ks.length ≤ 4194304) (hL : -32768 ≤ L ∧ L ≤ 32767) (hv : okRope L ks) (h1 : 0 < k) (h2 : k + 1 < ks.length) (hx : ks[k]? = some x) (hp : ∀ c fr G, ¬ Q (.panic c) fr G) (hfin : ∀ fr G, q9_J0 L ks lb c' k x H fr G → Q .normal fr G) : ∀ fr G, q9_J52 L ks lb c' k x H fr G → AA Try.prog ops_q9 Q 12 q9_l123 fr G := by
  have hlt0 := AHeap.lt hkl
  have ⟨v1, v2, v3, v4, v5, v6, v7⟩ := hv
  have bx := hv.bnd hx
  have hcl := cutB_len ks k x
  have htl : (ks.take (k + 1)).length = k + 1 := by simp; omega
  have hdl : (ks.drop k).length = ks.length - k := by simp
  rintro fr G ⟨get, rfl, hk0, hk1, hk2, hk3, hk4, hn, g4, g5, g8, g44, g49, g52, g54, g56, g58⟩
  refine aa_slot (d := 4) (v := .pointer (some ⟨H.next + 1, 0, none⟩)) g4 ?_
  refine aa_slot (d := 5) (v := .pointer (some ⟨H.next + 2, 0, none⟩)) g5 ?_
  refine aa_slot (d := 8) (v := .int .i16 x) g8 ?_
  refine aa_slot (d := 44) (v := .int .i16 x) g44 ?_
  refine aa_slot (d := 49) (v := .slice (some ⟨lb, 0, none⟩) (k + 1) (k + 1 + 1)) g49 ?_
  refine aa_slot (d := 52) (v := .pointer (some ⟨H.next, 0 + 0, none⟩)) g52 ?_
  refine aa_slot (d := 54) (v := .int .i16 x) g54 ?_
  refine aa_slot (d := 56) (v := .pointer (some ⟨H.next, 0 + 1, none⟩)) g56 ?_
  refine aa_slot (d := 58) (v := .int .i64 k) g58 ?_
  refine aax5 (i := 6) (j := 9) (l := 13) (o := 18) (p := 19) (by kernel_rfl) ?_ ?_ ?_ ?_ ?_
  · exact aa_oL (listed' := q9_l124) rfl rfl rfl rfl (by kernel_rfl) (ao_calld (cloneI16n_c (l := ks.take (k + 1)) (n := k + 1) (Sl.part (i := 0) i16_len (by exact HLp) rfl rfl (by simp) rfl (by simp; omega)) (by omega) (by omega)) Try.call26 rfl rfl) (aa_take (i := 7) (listed' := q9_l82) rfl (by kernel_rfl) (by kernel_rfl) (by kernel_rfl) rfl rfl rfl (by kernel_rfl) hp (apm_build (A := #[.int .i16 x, .slice (some ⟨G.next, 0, none⟩) (ks.take (k + 1)).length ((ks.take (k + 1)).length + 1)]) Try.zeroValue27 (by rfl) Try.underlying27 (by kernel_rfl) (by rfl) (by first | rfl | kernel_rfl)) (q9_st_39 hkl hcc hlen hL hv h1 h2 hx hp hfin _ _ ⟨_, rfl, G.next, hk0.push (by omega) _, blk_push_old hk1, blk_push_old hk2, blk_push_old hk3, blk_push_old hk4, Nat.le_succ_of_le hn, hn, Nat.lt_succ_self _, blk_push_new _ _, rfl, rfl, rfl, rfl, rfl, rfl, rfl, rfl⟩))
  · exact aa_oL (listed' := q9_l125) rfl rfl rfl rfl (by kernel_rfl) (ao_load (v := .int _ _) Try.isAgg22 (by rfl) (by exact HLp) (by rfl) (by exact RFp)) (aa_take (i := 11) (listed' := q9_l85) rfl (by kernel_rfl) (by kernel_rfl) (by kernel_rfl) rfl rfl rfl (by kernel_rfl) hp ((apm_sub rfl rfl).val (nw_i16 BDp BDp)) (q9_st_40 hkl hcc hlen hL hv h1 h2 hx hp hfin _ _ ⟨_, rfl, hk0, hk1, hk2, hk3, hk4, hn, rfl, rfl, rfl, rfl, rfl, rfl, rfl, rfl⟩))
  · exact aa_oL (listed' := q9_l126) rfl rfl rfl rfl (by kernel_rfl) (ao_load (v := .slice _ _ _) Try.isAgg23 (by rfl) (by exact HLp) (by rfl) (by exact RFp)) (aa_take (i := 15) (listed' := q9_l88) rfl (by kernel_rfl) (by kernel_rfl) (by kernel_rfl) rfl rfl rfl (by kernel_rfl) hp (apm_sliceLo Try.underlying23 Try.sizeOf22 (by rfl) (by rfl) (by first | rfl | omega) (by exact HLp) (by rfl) (by exact IXp)) (q9_st_41 hkl hcc hlen hL hv h1 h2 hx hp hfin _ _ ⟨_, rfl, hk0, hk1, hk2, hk3, hk4, hn, rfl, rfl, rfl, rfl, rfl, rfl, rfl, rfl⟩))
  · exact aa_oL (listed' := q9_l103) rfl rfl rfl rfl (by kernel_rfl) (ao_alloca (zv27) (by rfl)) (q9_st_46 hkl hcc hlen hL hv h1 h2 hx hp hfin _ _ ⟨_, rfl, G.next, hk0.push (by omega) _, blk_push_old hk1, blk_push_old hk2, blk_push_old hk3, blk_push_old hk4, Nat.le_succ_of_le hn, hn, Nat.lt_succ_self _, blk_push_new _ _, rfl, rfl, rfl, rfl, rfl, rfl, rfl, rfl, rfl, rfl⟩)
  · exact aa_oL (listed' := q9_l107) rfl rfl rfl rfl (by kernel_rfl) (ao_alloca (zv27) (by rfl)) (q9_st_47 hkl hcc hlen hL hv h1 h2 hx hp hfin _ _ ⟨_, rfl, G.next, hk0.push (by omega) _, blk_push_old hk1, blk_push_old hk2, blk_push_old hk3, blk_push_old hk4, Nat.le_succ_of_le hn, hn, Nat.lt_succ_self _, blk_push_new _ _, rfl, rfl, rfl, rfl, rfl, rfl, rfl, rfl, rfl, rfl⟩)
set_option maxHeartbeats 4000000 in
theorem q9_st_53 {L : Int} {ks : List Int} {lb c' k : Nat} {x : Int} {H : AHeap} {Q : Exit → AFr → AHeap → Prop} (hkl : H.blk lb = some (.cells (fl i16 ks) 1)) (hcc : ks.length ≤ c') (hlen : ks.length ≤ 4194304) (hL : -32768 ≤ L ∧ L ≤ 32767) (hv : okRope L ks) (h1 : 0 < k) (h2 : k + 1 < ks.length) (hx : ks[k]? = some x) (hp : ∀ c fr G, ¬ Q (.panic c) fr G) (hfin : ∀ fr G, q9_J0 L ks lb c' k x H fr G → Q .normal fr G) : ∀ fr G, q9_J53 L ks lb c' k x H fr G → AA Try.prog ops_q9 Q 12 q9_l127 fr G := by
  have hlt0 := AHeap.lt hkl
  have ⟨v1, v2, v3, v4, v5, v6, v7⟩ := hv
  have bx := hv.bnd hx
  have hcl := cutB_len ks k x
  have htl : (ks.take (k + 1)).length = k + 1 := by simp; omega
  have hdl : (ks.drop k).length = ks.length - k := by simp
  rintro fr G ⟨get, rfl, hk0, hk1, hk2, hk3, hk4, hn, g4, g5, g8, g44, g45, g48, g55, g56, g58⟩
  refine aa_slot (d := 4) (v := .pointer (some ⟨H.next + 1, 0, none⟩)) g4 ?_
  refine aa_slot (d := 5) (v := .pointer (some ⟨H.next + 2, 0, none⟩)) g5 ?_
  refine aa_slot (d := 8) (v := .int .i16 x) g8 ?_
  refine aa_slot (d := 44) (v := .int .i16 x) g44 ?_
  refine aa_slot (d := 45) (v := .pointer (some ⟨H.next, 0 + 1, none⟩)) g45 ?_
  refine aa_slot (d := 48) (v := .int .i64 ((k + 1 : Nat) : Int)) g48 ?_
  refine aa_slot (d := 55) (v := .int .i16 (L - x)) g55 ?_
  refine aa_slot (d := 56) (v := .pointer (some ⟨H.next, 0 + 1, none⟩)) g56 ?_
  refine aa_slot (d := 58) (v := .int .i64 k) g58 ?_
  refine aax4 (i := 2) (j := 13) (l := 18) (o := 19) (by kernel_rfl) ?_ ?_ ?_ ?_
  · exact aa_oL (listed' := q9_l128) rfl rfl rfl rfl (by kernel_rfl) (ao_load (v := .slice _ _ _) Try.isAgg23 (by rfl) (by exact HLp) (by rfl) (by exact RFp)) (aa_take (i := 5) (listed' := q9_l85) rfl (by kernel_rfl) (by kernel_rfl) (by kernel_rfl) rfl rfl rfl (by kernel_rfl) hp (apm_sliceHi Try.underlying23 Try.sizeOf22 (by rfl) (by rfl) (by first | rfl | omega) (by exact HLp) (by rfl) (by exact IXp)) (q9_st_40 hkl hcc hlen hL hv h1 h2 hx hp hfin _ _ ⟨_, rfl, hk0, hk1, hk2, hk3, hk4, hn, rfl, rfl, rfl, rfl, rfl, rfl, rfl, rfl⟩))
  · exact aa_oL (listed' := q9_l129) rfl rfl rfl rfl (by kernel_rfl) (ao_load (v := .slice _ _ _) Try.isAgg23 (by rfl) (by exact HLp) (by rfl) (by exact RFp)) (aa_take (i := 15) (listed' := q9_l95) rfl (by kernel_rfl) (by kernel_rfl) (by kernel_rfl) rfl rfl rfl (by kernel_rfl) hp (apm_sliceLo Try.underlying23 Try.sizeOf22 (by rfl) (by rfl) (by first | rfl | omega) (by exact HLp) (by rfl) (by exact IXp)) (q9_st_43 hkl hcc hlen hL hv h1 h2 hx hp hfin _ _ ⟨_, rfl, hk0, hk1, hk2, hk3, hk4, hn, rfl, rfl, rfl, rfl, rfl, rfl, rfl, rfl⟩))
  · exact aa_oL (listed' := q9_l111) rfl rfl rfl rfl (by kernel_rfl) (ao_alloca (zv27) (by rfl)) (q9_st_48 hkl hcc hlen hL hv h1 h2 hx hp hfin _ _ ⟨_, rfl, G.next, hk0.push (by omega) _, blk_push_old hk1, blk_push_old hk2, blk_push_old hk3, blk_push_old hk4, Nat.le_succ_of_le hn, hn, Nat.lt_succ_self _, blk_push_new _ _, rfl, rfl, rfl, rfl, rfl, rfl, rfl, rfl, rfl, rfl⟩)
  · exact aa_oL (listed' := q9_l114) rfl rfl rfl rfl (by kernel_rfl) (ao_alloca (zv27) (by rfl)) (q9_st_49 hkl hcc hlen hL hv h1 h2 hx hp hfin _ _ ⟨_, rfl, G.next, hk0.push (by omega) _, blk_push_old hk1, blk_push_old hk2, blk_push_old hk3, blk_push_old hk4, Nat.le_succ_of_le hn, hn, Nat.lt_succ_self _, blk_push_new _ _, rfl, rfl, rfl, rfl, rfl, rfl, rfl, rfl, rfl, rfl⟩)
set_option maxHeartbeats 4000000 in
theorem q9_st_54 {L : Int} {ks : List Int} {lb c' k : Nat} {x : Int} {H : AHeap} {Q : Exit → AFr → AHeap → Prop} (hkl : H.blk lb = some (.cells (fl i16 ks) 1)) (hcc : ks.length ≤ c') (hlen : ks.length ≤ 4194304) (hL : -32768 ≤ L ∧ L ≤ 32767) (hv : okRope L ks) (h1 : 0 < k) (h2 : k + 1 < ks.length) (hx : ks[k]? = some x) (hp : ∀ c fr G, ¬ Q (.panic c) fr G) (hfin : ∀ fr G, q9_J0 L ks lb c' k x H fr G → Q .normal fr G) : ∀ fr G, q9_J54 L ks lb c' k x H fr G → AA Try.prog ops_q9 Q 12 q9_l130 fr G := by
  have hlt0 := AHeap.lt hkl
  have ⟨v1, v2, v3, v4, v5, v6, v7⟩ := hv
  have bx := hv.bnd hx
  have hcl := cutB_len ks k x
  have htl : (ks.take (k + 1)).length = k + 1 := by simp; omega
  have hdl : (ks.drop k).length = ks.length - k := by simp
  rintro fr G ⟨get, rfl, hk0, hk1, hk2, hk3, hk4, hn, g4, g5, g8, g44, g45, g48, g52, g54, g59⟩
  refine aa_slot (d := 4) (v := .pointer (some ⟨H.next + 1, 0, none⟩)) g4 ?_
  refine aa_slot (d := 5) (v := .pointer (some ⟨H.next + 2, 0, none⟩)) g5 ?_
  refine aa_slot (d := 8) (v := .int .i16 x) g8 ?_
  refine aa_slot (d := 44) (v := .int .i16 x) g44 ?_
  refine aa_slot (d := 45) (v := .pointer (some ⟨H.next, 0 + 1, none⟩)) g45 ?_
  refine aa_slot (d := 48) (v := .int .i64 ((k + 1 : Nat) : Int)) g48 ?_
  refine aa_slot (d := 52) (v := .pointer (some ⟨H.next, 0 + 0, none⟩)) g52 ?_
  refine aa_slot (d := 54) (v := .int .i16 x) g54 ?_
  refine aa_slot (d := 59) (v := .slice (some ⟨lb, 0 + k * 1, none⟩) (ks.length - k) (ks.length - k + 1)) g59 ?_
  refine aax4 (i := 2) (j := 9) (l := 18) (o := 19) (by kernel_rfl) ?_ ?_ ?_ ?_
  · exact aa_oL (listed' := q9_l131) rfl rfl rfl rfl (by kernel_rfl) (ao_load (v := .slice _ _ _) Try.isAgg23 (by rfl) (by exact HLp) (by rfl) (by exact RFp)) (aa_take (i := 5) (listed' := q9_l88) rfl (by kernel_rfl) (by kernel_rfl) (by kernel_rfl) rfl rfl rfl (by kernel_rfl) hp (apm_sliceHi Try.underlying23 Try.sizeOf22 (by rfl) (by rfl) (by first | rfl | omega) (by exact HLp) (by rfl) (by exact IXp)) (q9_st_41 hkl hcc hlen hL hv h1 h2 hx hp hfin _ _ ⟨_, rfl, hk0, hk1, hk2, hk3, hk4, hn, rfl, rfl, rfl, rfl, rfl, rfl, rfl, rfl⟩))
  · exact aa_oL (listed' := q9_l132) rfl rfl rfl rfl (by kernel_rfl) (ao_load (v := .int _ _) Try.isAgg22 (by rfl) (by exact HLp) (by rfl) (by exact RFp)) (aa_take (i := 11) (listed' := q9_l95) rfl (by kernel_rfl) (by kernel_rfl) (by kernel_rfl) rfl rfl rfl (by kernel_rfl) hp ((apm_sub rfl rfl).val (nw_i16 BDp BDp)) (q9_st_43 hkl hcc hlen hL hv h1 h2 hx hp hfin _ _ ⟨_, rfl, hk0, hk1, hk2, hk3, hk4, hn, rfl, rfl, rfl, rfl, rfl, rfl, rfl, rfl⟩))
  · exact aa_oL (listed' := q9_l117) rfl rfl rfl rfl (by kernel_rfl) (ao_alloca (zv27) (by rfl)) (q9_st_50 hkl hcc hlen hL hv h1 h2 hx hp hfin _ _ ⟨_, rfl, G.next, hk0.push (by omega) _, blk_push_old hk1, blk_push_old hk2, blk_push_old hk3, blk_push_old hk4, Nat.le_succ_of_le hn, hn, Nat.lt_succ_self _, blk_push_new _ _, rfl, rfl, rfl, rfl, rfl, rfl, rfl, rfl, rfl, rfl⟩)
  · exact aa_oL (listed' := q9_l120) rfl rfl rfl rfl (by kernel_rfl) (ao_alloca (zv27) (by rfl)) (q9_st_51 hkl hcc hlen hL hv h1 h2 hx hp hfin _ _ ⟨_, rfl, G.next, hk0.push (by omega) _, blk_push_old hk1, blk_push_old hk2, blk_push_old hk3, blk_push_old hk4, Nat.le_succ_of_le hn, hn, Nat.lt_succ_self _, blk_push_new _ _, rfl, rfl, rfl, rfl, rfl, rfl, rfl, rfl, rfl, rfl⟩)
set_option maxHeartbeats 4000000 in
theorem q9_st_55 {L : Int} {ks : List Int} {lb c' k : Nat} {x : Int} {H : AHeap} {Q : Exit → AFr → AHeap → Prop} (hkl : H.blk lb = some (.cells (fl i16 ks) 1)) (hcc : ks.length ≤ c') (hlen : ks.length ≤ 4194304) (hL : -32768 ≤ L ∧ L ≤ 32767) (hv : okRope L ks) (h1 : 0 < k) (h2 : k + 1 < ks.length) (hx : ks[k]? = some x) (hp : ∀ c fr G, ¬ Q (.panic c) fr G) (hfin : ∀ fr G, q9_J0 L ks lb c' k x H fr G → Q .normal fr G) : ∀ fr G, q9_J55 L ks lb c' k x H fr G → AA Try.prog ops_q9 Q 12 q9_l133 fr G := by
  have hlt0 := AHeap.lt hkl
  have ⟨v1, v2, v3, v4, v5, v6, v7⟩ := hv
  have bx := hv.bnd hx
  have hcl := cutB_len ks k x
  have htl : (ks.take (k + 1)).length = k + 1 := by simp; omega
  have hdl : (ks.drop k).length = ks.length - k := by simp
  rintro fr G ⟨get, rfl, b9, b10, hk0, hk1, hk2, hk3, hk4, hn, hl9, hu9, hc9, hl10, hu10, hc10, he9_10, g4, g5, g8, g44, g45, g48, g52, g54, g56, g58, g9, g10⟩
  refine aa_slot (d := 4) (v := .pointer (some ⟨H.next + 1, 0, none⟩)) g4 ?_
  refine aa_slot (d := 5) (v := .pointer (some ⟨H.next + 2, 0, none⟩)) g5 ?_
  refine aa_slot (d := 8) (v := .int .i16 x) g8 ?_
  refine aa_slot (d := 44) (v := .int .i16 x) g44 ?_
  refine aa_slot (d := 45) (v := .pointer (some ⟨H.next, 0 + 1, none⟩)) g45 ?_
  refine aa_slot (d := 48) (v := .int .i64 ((k + 1 : Nat) : Int)) g48 ?_
  refine aa_slot (d := 52) (v := .pointer (some ⟨H.next, 0 + 0, none⟩)) g52 ?_
  refine aa_slot (d := 54) (v := .int .i16 x) g54 ?_
  refine aa_slot (d := 56) (v := .pointer (some ⟨H.next, 0 + 1, none⟩)) g56 ?_
  refine aa_slot (d := 58) (v := .int .i64 k) g58 ?_
  refine aa_slot (d := 9) (v := .pointer (some ⟨b9, 0, none⟩)) g9 ?_
  refine aa_slot (d := 10) (v := .pointer (some ⟨b10, 0, none⟩)) g10 ?_
  refine aax3 (i := 2) (j := 9) (l := 13) (by kernel_rfl) ?_ ?_ ?_
  · exact aa_oL (listed' := q9_l134) rfl rfl rfl rfl (by kernel_rfl) (ao_load (v := .slice _ _ _) Try.isAgg23 (by rfl) (by exact HLp) (by rfl) (by exact RFp)) (aa_take (i := 5) (listed' := q9_l91) rfl (by kernel_rfl) (by kernel_rfl) (by kernel_rfl) rfl rfl rfl (by kernel_rfl) hp (apm_sliceHi Try.underlying23 Try.sizeOf22 (by rfl) (by rfl) (by first | rfl | omega) (by exact HLp) (by rfl) (by exact IXp)) (q9_st_42 hkl hcc hlen hL hv h1 h2 hx hp hfin _ _ ⟨_, rfl, b9, b10, hk0, hk1, hk2, hk3, hk4, hn, hl9, hu9, hc9, hl10, hu10, hc10, he9_10, rfl, rfl, rfl, rfl, rfl, rfl, rfl, rfl, rfl, rfl, rfl⟩))
  · exact aa_oL (listed' := q9_l135) rfl rfl rfl rfl (by kernel_rfl) (ao_load (v := .int _ _) Try.isAgg22 (by rfl) (by exact HLp) (by rfl) (by exact RFp)) (aa_take (i := 11) (listed' := q9_l97) rfl (by kernel_rfl) (by kernel_rfl) (by kernel_rfl) rfl rfl rfl (by kernel_rfl) hp ((apm_sub rfl rfl).val (nw_i16 BDp BDp)) (q9_st_44 hkl hcc hlen hL hv h1 h2 hx hp hfin _ _ ⟨_, rfl, b9, b10, hk0, hk1, hk2, hk3, hk4, hn, hl9, hu9, hc9, hl10, hu10, hc10, he9_10, rfl, rfl, rfl, rfl, rfl, rfl, rfl, rfl, rfl, rfl, rfl⟩))
  · exact aa_oL (listed' := q9_l136) rfl rfl rfl rfl (by kernel_rfl) (ao_load (v := .slice _ _ _) Try.isAgg23 (by rfl) (by exact HLp) (by rfl) (by exact RFp)) (aa_take (i := 15) (listed' := q9_l100) rfl (by kernel_rfl) (by kernel_rfl) (by kernel_rfl) rfl rfl rfl (by kernel_rfl) hp (apm_sliceLo Try.underlying23 Try.sizeOf22 (by rfl) (by rfl) (by first | rfl | omega) (by exact HLp) (by rfl) (by exact IXp)) (q9_st_45 hkl hcc hlen hL hv h1 h2 hx hp hfin _ _ ⟨_, rfl, b9, b10, hk0, hk1, hk2, hk3, hk4, hn, hl9, hu9, hc9, hl10, hu10, hc10, he9_10, rfl, rfl, rfl, rfl, rfl, rfl, rfl, rfl, rfl, rfl, rfl⟩))
set_option maxHeartbeats 4000000 in
theorem q9_st_56 {L : Int} {ks : List Int} {lb c' k : Nat} {x : Int} {H : AHeap} {Q : Exit → AFr → AHeap → Prop} (hkl : H.blk lb = some (.cells (fl i16 ks) 1)) (hcc : ks.length ≤ c') (hlen : ks.length ≤ 4194304) (hL : -32768 ≤ L ∧ L ≤ 32767) (hv : okRope L ks) (h1 : 0 < k) (h2 : k + 1 < ks.length) (hx : ks[k]? = some x) (hp : ∀ c fr G, ¬ Q (.panic c) fr G) (hfin : ∀ fr G, q9_J0 L ks lb c' k x H fr G → Q .normal fr G) : ∀ fr G, q9_J56 L ks lb c' k x H fr G → AA Try.prog ops_q9 Q 13 q9_l137 fr G := by
  have hlt0 := AHeap.lt hkl
  have ⟨v1, v2, v3, v4, v5, v6, v7⟩ := hv
  have bx := hv.bnd hx
  have hcl := cutB_len ks k x
  have htl : (ks.take (k + 1)).length = k + 1 := by simp; omega
  have hdl : (ks.drop k).length = ks.length - k := by simp
  rintro fr G ⟨get, rfl, b9, hk0, hk1, hk2, hk3, hk4, hn, hl9, hu9, hc9, g4, g5, g8, g44, g45, g48, g52, g54, g56, g58, g9⟩
  refine aa_slot (d := 4) (v := .pointer (some ⟨H.next + 1, 0, none⟩)) g4 ?_
  refine aa_slot (d := 5) (v := .pointer (some ⟨H.next + 2, 0, none⟩)) g5 ?_
  refine aa_slot (d := 8) (v := .int .i16 x) g8 ?_
  refine aa_slot (d := 44) (v := .int .i16 x) g44 ?_
  refine aa_slot (d := 45) (v := .pointer (some ⟨H.next, 0 + 1, none⟩)) g45 ?_
  refine aa_slot (d := 48) (v := .int .i64 ((k + 1 : Nat) : Int)) g48 ?_
  refine aa_slot (d := 52) (v := .pointer (some ⟨H.next, 0 + 0, none⟩)) g52 ?_
  refine aa_slot (d := 54) (v := .int .i16 x) g54 ?_
  refine aa_slot (d := 56) (v := .pointer (some ⟨H.next, 0 + 1, none⟩)) g56 ?_
  refine aa_slot (d := 58) (v := .int .i64 k) g58 ?_
  refine aa_slot (d := 9) (v := .pointer (some ⟨b9, 0, none⟩)) g9 ?_
  refine aax4 (i := 2) (j := 9) (l := 13) (o := 19) (by kernel_rfl) ?_ ?_ ?_ ?_
  · exact aa_oL (listed' := q9_l138) rfl rfl rfl rfl (by kernel_rfl) (ao_load (v := .slice _ _ _) Try.isAgg23 (by rfl) (by exact HLp) (by rfl) (by exact RFp)) (aa_take (i := 5) (listed' := q9_l103) rfl (by kernel_rfl) (by kernel_rfl) (by kernel_rfl) rfl rfl rfl (by kernel_rfl) hp (apm_sliceHi Try.underlying23 Try.sizeOf22 (by rfl) (by rfl) (by first | rfl | omega) (by exact HLp) (by rfl) (by exact IXp)) (q9_st_46 hkl hcc hlen hL hv h1 h2 hx hp hfin _ _ ⟨_, rfl, b9, hk0, hk1, hk2, hk3, hk4, hn, hl9, hu9, hc9, rfl, rfl, rfl, rfl, rfl, rfl, rfl, rfl, rfl, rfl⟩))
  · exact aa_oL (listed' := q9_l139) rfl rfl rfl rfl (by kernel_rfl) (ao_load (v := .int _ _) Try.isAgg22 (by rfl) (by exact HLp) (by rfl) (by exact RFp)) (aa_take (i := 11) (listed' := q9_l111) rfl (by kernel_rfl) (by kernel_rfl) (by kernel_rfl) rfl rfl rfl (by kernel_rfl) hp ((apm_sub rfl rfl).val (nw_i16 BDp BDp)) (q9_st_48 hkl hcc hlen hL hv h1 h2 hx hp hfin _ _ ⟨_, rfl, b9, hk0, hk1, hk2, hk3, hk4, hn, hl9, hu9, hc9, rfl, rfl, rfl, rfl, rfl, rfl, rfl, rfl, rfl, rfl⟩))
  · exact aa_oL (listed' := q9_l140) rfl rfl rfl rfl (by kernel_rfl) (ao_load (v := .slice _ _ _) Try.isAgg23 (by rfl) (by exact HLp) (by rfl) (by exact RFp)) (aa_take (i := 15) (listed' := q9_l117) rfl (by kernel_rfl) (by kernel_rfl) (by kernel_rfl) rfl rfl rfl (by kernel_rfl) hp (apm_sliceLo Try.underlying23 Try.sizeOf22 (by rfl) (by rfl) (by first | rfl | omega) (by exact HLp) (by rfl) (by exact IXp)) (q9_st_50 hkl hcc hlen hL hv h1 h2 hx hp hfin _ _ ⟨_, rfl, b9, hk0, hk1, hk2, hk3, hk4, hn, hl9, hu9, hc9, rfl, rfl, rfl, rfl, rfl, rfl, rfl, rfl, rfl, rfl⟩))
  · exact aa_oL (listed' := q9_l133) rfl rfl rfl rfl (by kernel_rfl) (ao_alloca (zv27) (by rfl)) (q9_st_55 hkl hcc hlen hL hv h1 h2 hx hp hfin _ _ ⟨_, rfl, b9, G.next, hk0.push (by omega) _, blk_push_old hk1, blk_push_old hk2, blk_push_old hk3, blk_push_old hk4, Nat.le_succ_of_le hn, hl9, Nat.lt_succ_of_lt hu9, blk_push_old hc9, hn, Nat.lt_succ_self _, blk_push_new _ _, Nat.ne_of_lt hu9, rfl, rfl, rfl, rfl, rfl, rfl, rfl, rfl, rfl, rfl, rfl, rfl⟩)
set_option maxHeartbeats 4000000 in
theorem q9_st_57 {L : Int} {ks : List Int} {lb c' k : Nat} {x : Int} {H : AHeap} {Q : Exit → AFr → AHeap → Prop} (hkl : H.blk lb = some (.cells (fl i16 ks) 1)) (hcc : ks.length ≤ c') (hlen : ks.length ≤ 4194304) (hL : -32768 ≤ L ∧ L ≤ 32767) (hv : okRope L ks) (h1 : 0 < k) (h2 : k + 1 < ks.length) (hx : ks[k]? = some x) (hp : ∀ c fr G, ¬ Q (.panic c) fr G) (hfin : ∀ fr G, q9_J0 L ks lb c' k x H fr G → Q .normal fr G) : ∀ fr G, q9_J57 L ks lb c' k x H fr G → AA Try.prog ops_q9 Q 13 q9_l141 fr G := by
  have hlt0 := AHeap.lt hkl
  have ⟨v1, v2, v3, v4, v5, v6, v7⟩ := hv
  have bx := hv.bnd hx
  have hcl := cutB_len ks k x
  have htl : (ks.take (k + 1)).length = k + 1 := by simp; omega
  have hdl : (ks.drop k).length = ks.length - k := by simp
  rintro fr G ⟨get, rfl, b10, hk0, hk1, hk2, hk3, hk4, hn, hl10, hu10, hc10, g4, g5, g8, g44, g45, g48, g52, g54, g56, g58, g10⟩
  refine aa_slot (d := 4) (v := .pointer (some ⟨H.next + 1, 0, none⟩)) g4 ?_
  refine aa_slot (d := 5) (v := .pointer (some ⟨H.next + 2, 0, none⟩)) g5 ?_
  refine aa_slot (d := 8) (v := .int .i16 x) g8 ?_
  refine aa_slot (d := 44) (v := .int .i16 x) g44 ?_
  refine aa_slot (d := 45) (v := .pointer (some ⟨H.next, 0 + 1, none⟩)) g45 ?_
  refine aa_slot (d := 48) (v := .int .i64 ((k + 1 : Nat) : Int)) g48 ?_
  refine aa_slot (d := 52) (v := .pointer (some ⟨H.next, 0 + 0, none⟩)) g52 ?_
  refine aa_slot (d := 54) (v := .int .i16 x) g54 ?_
  refine aa_slot (d := 56) (v := .pointer (some ⟨H.next, 0 + 1, none⟩)) g56 ?_
  refine aa_slot (d := 58) (v := .int .i64 k) g58 ?_
  refine aa_slot (d := 10) (v := .pointer (some ⟨b10, 0, none⟩)) g10 ?_
  refine aax4 (i := 2) (j := 9) (l := 13) (o := 18) (by kernel_rfl) ?_ ?_ ?_ ?_
  · exact aa_oL (listed' := q9_l142) rfl rfl rfl rfl (by kernel_rfl) (ao_load (v := .slice _ _ _) Try.isAgg23 (by rfl) (by exact HLp) (by rfl) (by exact RFp)) (aa_take (i := 5) (listed' := q9_l107) rfl (by kernel_rfl) (by kernel_rfl) (by kernel_rfl) rfl rfl rfl (by kernel_rfl) hp (apm_sliceHi Try.underlying23 Try.sizeOf22 (by rfl) (by rfl) (by first | rfl | omega) (by exact HLp) (by rfl) (by exact IXp)) (q9_st_47 hkl hcc hlen hL hv h1 h2 hx hp hfin _ _ ⟨_, rfl, b10, hk0, hk1, hk2, hk3, hk4, hn, hl10, hu10, hc10, rfl, rfl, rfl, rfl, rfl, rfl, rfl, rfl, rfl, rfl⟩))
  · exact aa_oL (listed' := q9_l143) rfl rfl rfl rfl (by kernel_rfl) (ao_load (v := .int _ _) Try.isAgg22 (by rfl) (by exact HLp) (by rfl) (by exact RFp)) (aa_take (i := 11) (listed' := q9_l114) rfl (by kernel_rfl) (by kernel_rfl) (by kernel_rfl) rfl rfl rfl (by kernel_rfl) hp ((apm_sub rfl rfl).val (nw_i16 BDp BDp)) (q9_st_49 hkl hcc hlen hL hv h1 h2 hx hp hfin _ _ ⟨_, rfl, b10, hk0, hk1, hk2, hk3, hk4, hn, hl10, hu10, hc10, rfl, rfl, rfl, rfl, rfl, rfl, rfl, rfl, rfl, rfl⟩))
  · exact aa_oL (listed' := q9_l144) rfl rfl rfl rfl (by kernel_rfl) (ao_load (v := .slice _ _ _) Try.isAgg23 (by rfl) (by exact HLp) (by rfl) (by exact RFp)) (aa_take (i := 15) (listed' := q9_l120) rfl (by kernel_rfl) (by kernel_rfl) (by kernel_rfl) rfl rfl rfl (by kernel_rfl) hp (apm_sliceLo Try.underlying23 Try.sizeOf22 (by rfl) (by rfl) (by first | rfl | omega) (by exact HLp) (by rfl) (by exact IXp)) (q9_st_51 hkl hcc hlen hL hv h1 h2 hx hp hfin _ _ ⟨_, rfl, b10, hk0, hk1, hk2, hk3, hk4, hn, hl10, hu10, hc10, rfl, rfl, rfl, rfl, rfl, rfl, rfl, rfl, rfl, rfl⟩))
  · exact aa_oL (listed' := q9_l133) rfl rfl rfl rfl (by kernel_rfl) (ao_alloca (zv27) (by rfl)) (q9_st_55 hkl hcc hlen hL hv h1 h2 hx hp hfin _ _ ⟨_, rfl, G.next, b10, hk0.push (by omega) _, blk_push_old hk1, blk_push_old hk2, blk_push_old hk3, blk_push_old hk4, Nat.le_succ_of_le hn, hn, Nat.lt_succ_self _, blk_push_new _ _, hl10, Nat.lt_succ_of_lt hu10, blk_push_old hc10, (Nat.ne_of_gt hu10), rfl, rfl, rfl, rfl, rfl, rfl, rfl, rfl, rfl, rfl, rfl, rfl⟩)
set_option maxHeartbeats 4000000 in
theorem q9_st_58 {L : Int} {ks : List Int} {lb c' k : Nat} {x : Int} {H : AHeap} {Q : Exit → AFr → AHeap → Prop} (hkl : H.blk lb = some (.cells (fl i16 ks) 1)) (hcc : ks.length ≤ c') (hlen : ks.length ≤ 4194304) (hL : -32768 ≤ L ∧ L ≤ 32767) (hv : okRope L ks) (h1 : 0 < k) (h2 : k + 1 < ks.length) (hx : ks[k]? = some x) (hp : ∀ c fr G, ¬ Q (.panic c) fr G) (hfin : ∀ fr G, q9_J0 L ks lb c' k x H fr G → Q .normal fr G) : ∀ fr G, q9_J58 L ks lb c' k x H fr G → AA Try.prog ops_q9 Q 14 q9_l145 fr G := by
  have hlt0 := AHeap.lt hkl
  have ⟨v1, v2, v3, v4, v5, v6, v7⟩ := hv
  have bx := hv.bnd hx
  have hcl := cutB_len ks k x
  have htl : (ks.take (k + 1)).length = k + 1 := by simp; omega
  have hdl : (ks.drop k).length = ks.length - k := by simp
  rintro fr G ⟨get, rfl, hk0, hk1, hk2, hk3, hk4, hn, g4, g5, g8, g44, g45, g48, g52, g54, g56, g58⟩
  refine aa_slot (d := 4) (v := .pointer (some ⟨H.next + 1, 0, none⟩)) g4 ?_
  refine aa_slot (d := 5) (v := .pointer (some ⟨H.next + 2, 0, none⟩)) g5 ?_
  refine aa_slot (d := 8) (v := .int .i16 x) g8 ?_
  refine aa_slot (d := 44) (v := .int .i16 x) g44 ?_
  refine aa_slot (d := 45) (v := .pointer (some ⟨H.next, 0 + 1, none⟩)) g45 ?_
  refine aa_slot (d := 48) (v := .int .i64 ((k + 1 : Nat) : Int)) g48 ?_
  refine aa_slot (d := 52) (v := .pointer (some ⟨H.next, 0 + 0, none⟩)) g52 ?_
  refine aa_slot (d := 54) (v := .int .i16 x) g54 ?_
  refine aa_slot (d := 56) (v := .pointer (some ⟨H.next, 0 + 1, none⟩)) g56 ?_
  refine aa_slot (d := 58) (v := .int .i64 k) g58 ?_
  refine aax5 (i := 2) (j := 9) (l := 13) (o := 18) (p := 19) (by kernel_rfl) ?_ ?_ ?_ ?_ ?_
  · exact aa_oL (listed' := q9_l146) rfl rfl rfl rfl (by kernel_rfl) (ao_load (v := .slice _ _ _) Try.isAgg23 (by rfl) (by exact HLp) (by rfl) (by exact RFp)) (aa_take (i := 5) (listed' := q9_l123) rfl (by kernel_rfl) (by kernel_rfl) (by kernel_rfl) rfl rfl rfl (by kernel_rfl) hp (apm_sliceHi Try.underlying23 Try.sizeOf22 (by rfl) (by rfl) (by first | rfl | omega) (by exact HLp) (by rfl) (by exact IXp)) (q9_st_52 hkl hcc hlen hL hv h1 h2 hx hp hfin _ _ ⟨_, rfl, hk0, hk1, hk2, hk3, hk4, hn, rfl, rfl, rfl, rfl, rfl, rfl, rfl, rfl, rfl⟩))
  · exact aa_oL (listed' := q9_l147) rfl rfl rfl rfl (by kernel_rfl) (ao_load (v := .int _ _) Try.isAgg22 (by rfl) (by exact HLp) (by rfl) (by exact RFp)) (aa_take (i := 11) (listed' := q9_l127) rfl (by kernel_rfl) (by kernel_rfl) (by kernel_rfl) rfl rfl rfl (by kernel_rfl) hp ((apm_sub rfl rfl).val (nw_i16 BDp BDp)) (q9_st_53 hkl hcc hlen hL hv h1 h2 hx hp hfin _ _ ⟨_, rfl, hk0, hk1, hk2, hk3, hk4, hn, rfl, rfl, rfl, rfl, rfl, rfl, rfl, rfl, rfl⟩))
  · exact aa_oL (listed' := q9_l148) rfl rfl rfl rfl (by kernel_rfl) (ao_load (v := .slice _ _ _) Try.isAgg23 (by rfl) (by exact HLp) (by rfl) (by exact RFp)) (aa_take (i := 15) (listed' := q9_l130) rfl (by kernel_rfl) (by kernel_rfl) (by kernel_rfl) rfl rfl rfl (by kernel_rfl) hp (apm_sliceLo Try.underlying23 Try.sizeOf22 (by rfl) (by rfl) (by first | rfl | omega) (by exact HLp) (by rfl) (by exact IXp)) (q9_st_54 hkl hcc hlen hL hv h1 h2 hx hp hfin _ _ ⟨_, rfl, hk0, hk1, hk2, hk3, hk4, hn, rfl, rfl, rfl, rfl, rfl, rfl, rfl, rfl, rfl⟩))
  · exact aa_oL (listed' := q9_l137) rfl rfl rfl rfl (by kernel_rfl) (ao_alloca (zv27) (by rfl)) (q9_st_56 hkl hcc hlen hL hv h1 h2 hx hp hfin _ _ ⟨_, rfl, G.next, hk0.push (by omega) _, blk_push_old hk1, blk_push_old hk2, blk_push_old hk3, blk_push_old hk4, Nat.le_succ_of_le hn, hn, Nat.lt_succ_self _, blk_push_new _ _, rfl, rfl, rfl, rfl, rfl, rfl, rfl, rfl, rfl, rfl, rfl⟩)
  · exact aa_oL (listed' := q9_l141) rfl rfl rfl rfl (by kernel_rfl) (ao_alloca (zv27) (by rfl)) (q9_st_57 hkl hcc hlen hL hv h1 h2 hx hp hfin _ _ ⟨_, rfl, G.next, hk0.push (by omega) _, blk_push_old hk1, blk_push_old hk2, blk_push_old hk3, blk_push_old hk4, Nat.le_succ_of_le hn, hn, Nat.lt_succ_self _, blk_push_new _ _, rfl, rfl, rfl, rfl, rfl, rfl, rfl, rfl, rfl, rfl, rfl⟩)
set_option maxHeartbeats 4000000 in
theorem q9_c {L : Int} {ks : List Int} {lb c' k : Nat} {x : Int} {H : AHeap} {Q : Exit → AFr → AHeap → Prop} (hkl : H.blk lb = some (.cells (fl i16 ks) 1)) (hcc : ks.length ≤ c') (hlen : ks.length ≤ 4194304) (hL : -32768 ≤ L ∧ L ≤ 32767) (hv : okRope L ks) (h1 : 0 < k) (h2 : k + 1 < ks.length) (hx : ks[k]? = some x) (hp : ∀ c fr G, ¬ Q (.panic c) fr G) (hfin : ∀ fr G, q9_J0 L ks lb c' k x H fr G → Q .normal fr G) : ∀ fr G, q9_J59 L ks lb c' k x H fr G → AA Try.prog ops_q9 Q (ops_q9).size (Array.replicate (ops_q9).size false) fr G := by
  have hlt0 := AHeap.lt hkl
  have ⟨v1, v2, v3, v4, v5, v6, v7⟩ := hv
  have bx := hv.bnd hx
  have hcl := cutB_len ks k x
  have htl : (ks.take (k + 1)).length = k + 1 := by simp; omega
  have hdl : (ks.drop k).length = ks.length - k := by simp
  rintro fr G ⟨get, rfl, hk0, hk1, hk2, hk3, hk4, hn, g1, g2, g4, g5, g8⟩
  refine aa_slot (d := 1) (v := .int .i64 k) g1 ?_
  refine aa_slot (d := 2) (v := .pointer (some ⟨H.next, 0, none⟩)) g2 ?_
  refine aa_slot (d := 4) (v := .pointer (some ⟨H.next + 1, 0, none⟩)) g4 ?_
  refine aa_slot (d := 5) (v := .pointer (some ⟨H.next + 2, 0, none⟩)) g5 ?_
  refine aa_slot (d := 8) (v := .int .i16 x) g8 ?_
  exact aa_take (i := 0) (listed' := q9_l149) rfl (by kernel_rfl) (by kernel_rfl) (by kernel_rfl) rfl rfl rfl (by kernel_rfl) hp (apm_mv (v := .int .i16 x) rfl) (aa_take (i := 1) (listed' := q9_l150) rfl (by kernel_rfl) (by kernel_rfl) (by kernel_rfl) rfl rfl rfl (by kernel_rfl) hp (apm_fieldAddr fo_27_1 rfl) (aa_take (i := 3) (listed' := q9_l151) rfl (by kernel_rfl) (by kernel_rfl) (by kernel_rfl) rfl rfl rfl (by kernel_rfl) hp (apm_mv (v := .int .i64 k) rfl) (aa_take (i := 4) (listed' := q9_l152) rfl (by kernel_rfl) (by kernel_rfl) (by kernel_rfl) rfl rfl rfl (by kernel_rfl) hp ((apm_add rfl rfl).val (v' := .int .i64 ((k + 1 : Nat) : Int)) (nw_i64 (by omega) (by omega))) (aa_take (i := 8) (listed' := q9_l153) rfl (by kernel_rfl) (by kernel_rfl) (by kernel_rfl) rfl rfl rfl (by kernel_rfl) hp (apm_fieldAddr fo_27_0 rfl) (aa_take (i := 10) (listed' := q9_l154) rfl (by kernel_rfl) (by kernel_rfl) (by kernel_rfl) rfl rfl rfl (by kernel_rfl) hp (apm_mv (v := .int .i16 x) rfl) (aa_take (i := 12) (listed' := q9_l155) rfl (by kernel_rfl) (by kernel_rfl) (by kernel_rfl) rfl rfl rfl (by kernel_rfl) hp (apm_fieldAddr fo_27_1 rfl) (aa_take (i := 14) (listed' := q9_l145) rfl (by kernel_rfl) (by kernel_rfl) (by kernel_rfl) rfl rfl rfl (by kernel_rfl) hp (apm_mv (v := .int .i64 k) rfl) (q9_st_58 hkl hcc hlen hL hv h1 h2 hx hp hfin _ _ ⟨_, rfl, hk0, hk1, hk2, hk3, hk4, hn, rfl, rfl, rfl, rfl, rfl, rfl, rfl, rfl, rfl, rfl⟩))))))))

end Go.Proofs.Ytdcmjbaahcipoaa
