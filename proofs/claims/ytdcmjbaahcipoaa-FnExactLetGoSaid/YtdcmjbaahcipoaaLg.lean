/- Contracts of the program's functions over abstract heaps. -/
import Derived.Test.YtdcmjbaahcipoaaClear
import Derived.Test.YtdcmjbaahcipoaaLaws
import Derived.Test.YtdcmjbaahcipoaaOk
import Derived.Test.YtdcmjbaahcipoaaVh
import Derived.Test.YtdcmjbaahcipoaaCl
namespace Go.Proofs.Ytdcmjbaahcipoaa
open Go Go.AW Go.Proofs
set_option linter.unusedVariables false
set_option linter.unusedSimpArgs false
set_option maxRecDepth 100000
set_option maxHeartbeats 2000000

def ops_dh5 : Array Oper := #[(Go.Oper.mk (some 20) (Go.Op.move (Go.Operand.tmp 0)) 36 "slices.go:232" #[] none), (Go.Oper.mk (some 21) (Go.Op.move (Go.Operand.tmp 1)) 3 "slices.go:232" #[] none), (Go.Oper.mk (some 22) (Go.Op.slice 36 (Go.Operand.tmp 20) none (some (Go.Operand.tmp 21)) none) 36 "slices.go:232" #[(Go.Edge.mk 0 Go.Ground.data), (Go.Edge.mk 1 Go.Ground.data)] none), (Go.Oper.mk (some 23) (Go.Op.move (Go.Operand.tmp 0)) 36 "slices.go:232" #[] none), (Go.Oper.mk (some 24) (Go.Op.move (Go.Operand.tmp 2)) 3 "slices.go:232" #[] none), (Go.Oper.mk (some 25) (Go.Op.slice 36 (Go.Operand.tmp 23) (some (Go.Operand.tmp 24)) none none) 36 "slices.go:232" #[(Go.Edge.mk 3 Go.Ground.data), (Go.Edge.mk 4 Go.Ground.data)] none), (Go.Oper.mk (some 26) (Go.Op.call (Go.Call.mk (Go.Callee.builtin Go.Builtin.append) #[(Go.Operand.tmp 22), (Go.Operand.tmp 25)] #[36, 36])) 36 "slices.go:232" #[(Go.Edge.mk 2 Go.Ground.data), (Go.Edge.mk 5 Go.Ground.data)] none), (Go.Oper.mk (some 0) (Go.Op.assign (Go.Operand.tmp 26)) 36 "slices.go:232" #[(Go.Edge.mk 6 Go.Ground.data), (Go.Edge.mk 6 Go.Ground.chain), (Go.Edge.mk 0 Go.Ground.phase), (Go.Edge.mk 1 Go.Ground.phase), (Go.Edge.mk 2 Go.Ground.phase), (Go.Edge.mk 3 Go.Ground.phase), (Go.Edge.mk 4 Go.Ground.phase), (Go.Edge.mk 5 Go.Ground.phase), (Go.Edge.mk 6 Go.Ground.phase)] none)]
abbrev dh5_l0 : Array Bool := #[true, true, true, true, true, true, true, true]
abbrev dh5_l1 : Array Bool := #[true, true, true, true, true, true, true, false]
abbrev dh5_l2 : Array Bool := #[true, true, true, true, true, true, false, false]
abbrev dh5_l3 : Array Bool := #[true, true, true, true, true, false, false, false]
abbrev dh5_l4 : Array Bool := #[true, true, false, true, true, true, false, false]
abbrev dh5_l5 : Array Bool := #[true, true, true, true, false, false, false, false]
abbrev dh5_l6 : Array Bool := #[true, true, true, false, true, false, false, false]
abbrev dh5_l7 : Array Bool := #[true, true, false, true, true, false, false, false]
abbrev dh5_l8 : Array Bool := #[true, false, false, true, true, true, false, false]
abbrev dh5_l9 : Array Bool := #[false, true, false, true, true, true, false, false]
abbrev dh5_l10 : Array Bool := #[true, true, true, false, false, false, false, false]
abbrev dh5_l11 : Array Bool := #[true, true, false, true, false, false, false, false]
abbrev dh5_l12 : Array Bool := #[true, true, false, false, true, false, false, false]
abbrev dh5_l13 : Array Bool := #[true, false, false, true, true, false, false, false]
abbrev dh5_l14 : Array Bool := #[false, true, false, true, true, false, false, false]
abbrev dh5_l15 : Array Bool := #[false, false, false, true, true, true, false, false]
abbrev dh5_l16 : Array Bool := #[true, true, false, false, false, false, false, false]
abbrev dh5_l17 : Array Bool := #[true, false, false, true, false, false, false, false]
abbrev dh5_l18 : Array Bool := #[true, false, false, false, true, false, false, false]
abbrev dh5_l19 : Array Bool := #[false, true, false, true, false, false, false, false]
abbrev dh5_l20 : Array Bool := #[false, true, false, false, true, false, false, false]
abbrev dh5_l21 : Array Bool := #[false, false, false, true, true, false, false, false]
abbrev dh5_l22 : Array Bool := #[true, false, false, false, false, false, false, false]
abbrev dh5_l23 : Array Bool := #[false, true, false, false, false, false, false, false]
abbrev dh5_l24 : Array Bool := #[false, false, false, true, false, false, false, false]
abbrev dh5_l25 : Array Bool := #[false, false, false, false, true, false, false, false]
abbrev dh5_l26 : Array Bool := #[false, false, false, false, false, false, false, false]
abbrev dh5_J0 (hs : List Hold) (lb i : Nat) (H : AHeap) (fr : AFr) (G : AHeap) : Prop := ∃ get : Nat → Value, fr = ⟨33, get⟩ ∧ G = H.set lb (.cells (fl hold (letL hs i ++ hs.drop (hs.length - 1))) 2) ∧ H.next ≤ G.next ∧ get 7 = .int .i64 hs.length ∧ get 0 = .slice (some ⟨lb, 0, none⟩) (hs.length - 1) (hs.length + 1)
abbrev dh5_J1 (hs : List Hold) (lb i : Nat) (H : AHeap) (fr : AFr) (G : AHeap) : Prop := ∃ get : Nat → Value, fr = ⟨33, get⟩ ∧ G = H.set lb (.cells (fl hold (letL hs i ++ hs.drop (hs.length - 1))) 2) ∧ H.next ≤ G.next ∧ get 0 = .slice (some ⟨lb, 0, none⟩) hs.length (hs.length + 1) ∧ get 7 = .int .i64 hs.length ∧ get 26 = .slice (some ⟨lb, 0, none⟩) (hs.length - 1) (hs.length + 1)
abbrev dh5_J2 (hs : List Hold) (lb i : Nat) (H : AHeap) (fr : AFr) (G : AHeap) : Prop := ∃ get : Nat → Value, fr = ⟨33, get⟩ ∧ G = H ∧ H.next ≤ G.next ∧ get 0 = .slice (some ⟨lb, 0, none⟩) hs.length (hs.length + 1) ∧ get 7 = .int .i64 hs.length ∧ get 22 = .slice (some ⟨lb, 0, none⟩) i (hs.length + 1) ∧ get 25 = .slice (some ⟨lb, 0 + (i + 1) * 2, none⟩) (hs.length - (i + 1)) (hs.length - (i + 1) + 1)
abbrev dh5_J3 (hs : List Hold) (lb i : Nat) (H : AHeap) (fr : AFr) (G : AHeap) : Prop := ∃ get : Nat → Value, fr = ⟨33, get⟩ ∧ G = H ∧ H.next ≤ G.next ∧ get 0 = .slice (some ⟨lb, 0, none⟩) hs.length (hs.length + 1) ∧ get 7 = .int .i64 hs.length ∧ get 22 = .slice (some ⟨lb, 0, none⟩) i (hs.length + 1) ∧ get 23 = .slice (some ⟨lb, 0, none⟩) hs.length (hs.length + 1) ∧ get 24 = .int .i64 ((i + 1 : Nat) : Int)
abbrev dh5_J4 (hs : List Hold) (lb i : Nat) (H : AHeap) (fr : AFr) (G : AHeap) : Prop := ∃ get : Nat → Value, fr = ⟨33, get⟩ ∧ G = H ∧ H.next ≤ G.next ∧ get 0 = .slice (some ⟨lb, 0, none⟩) hs.length (hs.length + 1) ∧ get 7 = .int .i64 hs.length ∧ get 20 = .slice (some ⟨lb, 0, none⟩) hs.length (hs.length + 1) ∧ get 21 = .int .i64 i ∧ get 25 = .slice (some ⟨lb, 0 + (i + 1) * 2, none⟩) (hs.length - (i + 1)) (hs.length - (i + 1) + 1)
abbrev dh5_J5 (hs : List Hold) (lb i : Nat) (H : AHeap) (fr : AFr) (G : AHeap) : Prop := ∃ get : Nat → Value, fr = ⟨33, get⟩ ∧ G = H ∧ H.next ≤ G.next ∧ get 0 = .slice (some ⟨lb, 0, none⟩) hs.length (hs.length + 1) ∧ get 2 = .int .i64 ((i + 1 : Nat) : Int) ∧ get 7 = .int .i64 hs.length ∧ get 22 = .slice (some ⟨lb, 0, none⟩) i (hs.length + 1) ∧ get 23 = .slice (some ⟨lb, 0, none⟩) hs.length (hs.length + 1)
abbrev dh5_J6 (hs : List Hold) (lb i : Nat) (H : AHeap) (fr : AFr) (G : AHeap) : Prop := ∃ get : Nat → Value, fr = ⟨33, get⟩ ∧ G = H ∧ H.next ≤ G.next ∧ get 0 = .slice (some ⟨lb, 0, none⟩) hs.length (hs.length + 1) ∧ get 7 = .int .i64 hs.length ∧ get 22 = .slice (some ⟨lb, 0, none⟩) i (hs.length + 1) ∧ get 24 = .int .i64 ((i + 1 : Nat) : Int)
abbrev dh5_J7 (hs : List Hold) (lb i : Nat) (H : AHeap) (fr : AFr) (G : AHeap) : Prop := ∃ get : Nat → Value, fr = ⟨33, get⟩ ∧ G = H ∧ H.next ≤ G.next ∧ get 0 = .slice (some ⟨lb, 0, none⟩) hs.length (hs.length + 1) ∧ get 7 = .int .i64 hs.length ∧ get 20 = .slice (some ⟨lb, 0, none⟩) hs.length (hs.length + 1) ∧ get 21 = .int .i64 i ∧ get 23 = .slice (some ⟨lb, 0, none⟩) hs.length (hs.length + 1) ∧ get 24 = .int .i64 ((i + 1 : Nat) : Int)
abbrev dh5_J8 (hs : List Hold) (lb i : Nat) (H : AHeap) (fr : AFr) (G : AHeap) : Prop := ∃ get : Nat → Value, fr = ⟨33, get⟩ ∧ G = H ∧ H.next ≤ G.next ∧ get 0 = .slice (some ⟨lb, 0, none⟩) hs.length (hs.length + 1) ∧ get 1 = .int .i64 i ∧ get 7 = .int .i64 hs.length ∧ get 20 = .slice (some ⟨lb, 0, none⟩) hs.length (hs.length + 1) ∧ get 25 = .slice (some ⟨lb, 0 + (i + 1) * 2, none⟩) (hs.length - (i + 1)) (hs.length - (i + 1) + 1)
abbrev dh5_J9 (hs : List Hold) (lb i : Nat) (H : AHeap) (fr : AFr) (G : AHeap) : Prop := ∃ get : Nat → Value, fr = ⟨33, get⟩ ∧ G = H ∧ H.next ≤ G.next ∧ get 0 = .slice (some ⟨lb, 0, none⟩) hs.length (hs.length + 1) ∧ get 7 = .int .i64 hs.length ∧ get 21 = .int .i64 i ∧ get 25 = .slice (some ⟨lb, 0 + (i + 1) * 2, none⟩) (hs.length - (i + 1)) (hs.length - (i + 1) + 1)
abbrev dh5_J10 (hs : List Hold) (lb i : Nat) (H : AHeap) (fr : AFr) (G : AHeap) : Prop := ∃ get : Nat → Value, fr = ⟨33, get⟩ ∧ G = H ∧ H.next ≤ G.next ∧ get 0 = .slice (some ⟨lb, 0, none⟩) hs.length (hs.length + 1) ∧ get 2 = .int .i64 ((i + 1 : Nat) : Int) ∧ get 7 = .int .i64 hs.length ∧ get 22 = .slice (some ⟨lb, 0, none⟩) i (hs.length + 1)
abbrev dh5_J11 (hs : List Hold) (lb i : Nat) (H : AHeap) (fr : AFr) (G : AHeap) : Prop := ∃ get : Nat → Value, fr = ⟨33, get⟩ ∧ G = H ∧ H.next ≤ G.next ∧ get 0 = .slice (some ⟨lb, 0, none⟩) hs.length (hs.length + 1) ∧ get 2 = .int .i64 ((i + 1 : Nat) : Int) ∧ get 7 = .int .i64 hs.length ∧ get 20 = .slice (some ⟨lb, 0, none⟩) hs.length (hs.length + 1) ∧ get 21 = .int .i64 i ∧ get 23 = .slice (some ⟨lb, 0, none⟩) hs.length (hs.length + 1)
abbrev dh5_J12 (hs : List Hold) (lb i : Nat) (H : AHeap) (fr : AFr) (G : AHeap) : Prop := ∃ get : Nat → Value, fr = ⟨33, get⟩ ∧ G = H ∧ H.next ≤ G.next ∧ get 0 = .slice (some ⟨lb, 0, none⟩) hs.length (hs.length + 1) ∧ get 7 = .int .i64 hs.length ∧ get 20 = .slice (some ⟨lb, 0, none⟩) hs.length (hs.length + 1) ∧ get 21 = .int .i64 i ∧ get 24 = .int .i64 ((i + 1 : Nat) : Int)
abbrev dh5_J13 (hs : List Hold) (lb i : Nat) (H : AHeap) (fr : AFr) (G : AHeap) : Prop := ∃ get : Nat → Value, fr = ⟨33, get⟩ ∧ G = H ∧ H.next ≤ G.next ∧ get 0 = .slice (some ⟨lb, 0, none⟩) hs.length (hs.length + 1) ∧ get 1 = .int .i64 i ∧ get 7 = .int .i64 hs.length ∧ get 20 = .slice (some ⟨lb, 0, none⟩) hs.length (hs.length + 1) ∧ get 23 = .slice (some ⟨lb, 0, none⟩) hs.length (hs.length + 1) ∧ get 24 = .int .i64 ((i + 1 : Nat) : Int)
abbrev dh5_J14 (hs : List Hold) (lb i : Nat) (H : AHeap) (fr : AFr) (G : AHeap) : Prop := ∃ get : Nat → Value, fr = ⟨33, get⟩ ∧ G = H ∧ H.next ≤ G.next ∧ get 0 = .slice (some ⟨lb, 0, none⟩) hs.length (hs.length + 1) ∧ get 7 = .int .i64 hs.length ∧ get 21 = .int .i64 i ∧ get 23 = .slice (some ⟨lb, 0, none⟩) hs.length (hs.length + 1) ∧ get 24 = .int .i64 ((i + 1 : Nat) : Int)
abbrev dh5_J15 (hs : List Hold) (lb i : Nat) (H : AHeap) (fr : AFr) (G : AHeap) : Prop := ∃ get : Nat → Value, fr = ⟨33, get⟩ ∧ G = H ∧ H.next ≤ G.next ∧ get 0 = .slice (some ⟨lb, 0, none⟩) hs.length (hs.length + 1) ∧ get 1 = .int .i64 i ∧ get 7 = .int .i64 hs.length ∧ get 25 = .slice (some ⟨lb, 0 + (i + 1) * 2, none⟩) (hs.length - (i + 1)) (hs.length - (i + 1) + 1)
abbrev dh5_J16 (hs : List Hold) (lb i : Nat) (H : AHeap) (fr : AFr) (G : AHeap) : Prop := ∃ get : Nat → Value, fr = ⟨33, get⟩ ∧ G = H ∧ H.next ≤ G.next ∧ get 0 = .slice (some ⟨lb, 0, none⟩) hs.length (hs.length + 1) ∧ get 2 = .int .i64 ((i + 1 : Nat) : Int) ∧ get 7 = .int .i64 hs.length ∧ get 20 = .slice (some ⟨lb, 0, none⟩) hs.length (hs.length + 1) ∧ get 21 = .int .i64 i
abbrev dh5_J17 (hs : List Hold) (lb i : Nat) (H : AHeap) (fr : AFr) (G : AHeap) : Prop := ∃ get : Nat → Value, fr = ⟨33, get⟩ ∧ G = H ∧ H.next ≤ G.next ∧ get 0 = .slice (some ⟨lb, 0, none⟩) hs.length (hs.length + 1) ∧ get 1 = .int .i64 i ∧ get 2 = .int .i64 ((i + 1 : Nat) : Int) ∧ get 7 = .int .i64 hs.length ∧ get 20 = .slice (some ⟨lb, 0, none⟩) hs.length (hs.length + 1) ∧ get 23 = .slice (some ⟨lb, 0, none⟩) hs.length (hs.length + 1)
abbrev dh5_J18 (hs : List Hold) (lb i : Nat) (H : AHeap) (fr : AFr) (G : AHeap) : Prop := ∃ get : Nat → Value, fr = ⟨33, get⟩ ∧ G = H ∧ H.next ≤ G.next ∧ get 0 = .slice (some ⟨lb, 0, none⟩) hs.length (hs.length + 1) ∧ get 1 = .int .i64 i ∧ get 7 = .int .i64 hs.length ∧ get 20 = .slice (some ⟨lb, 0, none⟩) hs.length (hs.length + 1) ∧ get 24 = .int .i64 ((i + 1 : Nat) : Int)
abbrev dh5_J19 (hs : List Hold) (lb i : Nat) (H : AHeap) (fr : AFr) (G : AHeap) : Prop := ∃ get : Nat → Value, fr = ⟨33, get⟩ ∧ G = H ∧ H.next ≤ G.next ∧ get 0 = .slice (some ⟨lb, 0, none⟩) hs.length (hs.length + 1) ∧ get 2 = .int .i64 ((i + 1 : Nat) : Int) ∧ get 7 = .int .i64 hs.length ∧ get 21 = .int .i64 i ∧ get 23 = .slice (some ⟨lb, 0, none⟩) hs.length (hs.length + 1)
abbrev dh5_J20 (hs : List Hold) (lb i : Nat) (H : AHeap) (fr : AFr) (G : AHeap) : Prop := ∃ get : Nat → Value, fr = ⟨33, get⟩ ∧ G = H ∧ H.next ≤ G.next ∧ get 0 = .slice (some ⟨lb, 0, none⟩) hs.length (hs.length + 1) ∧ get 7 = .int .i64 hs.length ∧ get 21 = .int .i64 i ∧ get 24 = .int .i64 ((i + 1 : Nat) : Int)
abbrev dh5_J21 (hs : List Hold) (lb i : Nat) (H : AHeap) (fr : AFr) (G : AHeap) : Prop := ∃ get : Nat → Value, fr = ⟨33, get⟩ ∧ G = H ∧ H.next ≤ G.next ∧ get 0 = .slice (some ⟨lb, 0, none⟩) hs.length (hs.length + 1) ∧ get 1 = .int .i64 i ∧ get 7 = .int .i64 hs.length ∧ get 23 = .slice (some ⟨lb, 0, none⟩) hs.length (hs.length + 1) ∧ get 24 = .int .i64 ((i + 1 : Nat) : Int)
abbrev dh5_J22 (hs : List Hold) (lb i : Nat) (H : AHeap) (fr : AFr) (G : AHeap) : Prop := ∃ get : Nat → Value, fr = ⟨33, get⟩ ∧ G = H ∧ H.next ≤ G.next ∧ get 0 = .slice (some ⟨lb, 0, none⟩) hs.length (hs.length + 1) ∧ get 1 = .int .i64 i ∧ get 2 = .int .i64 ((i + 1 : Nat) : Int) ∧ get 7 = .int .i64 hs.length ∧ get 20 = .slice (some ⟨lb, 0, none⟩) hs.length (hs.length + 1)
abbrev dh5_J23 (hs : List Hold) (lb i : Nat) (H : AHeap) (fr : AFr) (G : AHeap) : Prop := ∃ get : Nat → Value, fr = ⟨33, get⟩ ∧ G = H ∧ H.next ≤ G.next ∧ get 0 = .slice (some ⟨lb, 0, none⟩) hs.length (hs.length + 1) ∧ get 2 = .int .i64 ((i + 1 : Nat) : Int) ∧ get 7 = .int .i64 hs.length ∧ get 21 = .int .i64 i
abbrev dh5_J24 (hs : List Hold) (lb i : Nat) (H : AHeap) (fr : AFr) (G : AHeap) : Prop := ∃ get : Nat → Value, fr = ⟨33, get⟩ ∧ G = H ∧ H.next ≤ G.next ∧ get 0 = .slice (some ⟨lb, 0, none⟩) hs.length (hs.length + 1) ∧ get 1 = .int .i64 i ∧ get 2 = .int .i64 ((i + 1 : Nat) : Int) ∧ get 7 = .int .i64 hs.length ∧ get 23 = .slice (some ⟨lb, 0, none⟩) hs.length (hs.length + 1)
abbrev dh5_J25 (hs : List Hold) (lb i : Nat) (H : AHeap) (fr : AFr) (G : AHeap) : Prop := ∃ get : Nat → Value, fr = ⟨33, get⟩ ∧ G = H ∧ H.next ≤ G.next ∧ get 0 = .slice (some ⟨lb, 0, none⟩) hs.length (hs.length + 1) ∧ get 1 = .int .i64 i ∧ get 7 = .int .i64 hs.length ∧ get 24 = .int .i64 ((i + 1 : Nat) : Int)
abbrev dh5_J26 (hs : List Hold) (lb i : Nat) (H : AHeap) (fr : AFr) (G : AHeap) : Prop := ∃ get : Nat → Value, fr = ⟨33, get⟩ ∧ G = H ∧ H.next ≤ G.next ∧ get 0 = .slice (some ⟨lb, 0, none⟩) hs.length (hs.length + 1) ∧ get 1 = .int .i64 i ∧ get 2 = .int .i64 ((i + 1 : Nat) : Int) ∧ get 7 = .int .i64 hs.length
set_option maxHeartbeats 4000000 in
theorem dh5_st_0 {hs : List Hold} {lb i : Nat} {H : AHeap} {Q : Exit → AFr → AHeap → Prop} (hkl : H.blk lb = some (.cells (fl hold hs) 2)) (hi : i < hs.length) (hnl : hs.length ≤ 4194304) (hp : ∀ c fr G, ¬ Q (.panic c) fr G) (hfin : ∀ fr G, dh5_J0 hs lb i H fr G → Q .normal fr G) : ∀ fr G, dh5_J0 hs lb i H fr G → AA Try.prog ops_dh5 Q 0 dh5_l0 fr G := by
  have hdl : (hs.drop (i + 1)).length = hs.length - (i + 1) := by simp
  have hsrc : Src H 2 (.slice (some ⟨lb, 0 + (i + 1) * 2, none⟩) (hs.length - (i + 1)) (hs.length - (i + 1) + 1)) (hs.length - (i + 1)) (fl hold (hs.drop (i + 1))) := srcn ((Sl.part (i := i + 1) (m := hs.drop (i + 1)) hold_len hkl rfl rfl (by omega) (List.take_of_length_le (by omega)) (by omega) : Sl H hold 2 (.slice (some ⟨lb, 0 + (i + 1) * 2, none⟩) (hs.length - (i + 1)) (hs.length - (i + 1) + 1)) _).src hold_len (by decide)) hdl
  have hone : (fl hold (hs.drop (i + 1))).all isOne = true := by rw [List.all_eq_true]; intro v hv; obtain ⟨z, _, h⟩ := List.mem_flatMap.mp hv; simp [hold] at h; rcases h with rfl | rfl <;> rfl
  exact fun fr G h => aa_done (by kernel_rfl) (hfin fr G h)
set_option maxHeartbeats 4000000 in
theorem dh5_st_1 {hs : List Hold} {lb i : Nat} {H : AHeap} {Q : Exit → AFr → AHeap → Prop} (hkl : H.blk lb = some (.cells (fl hold hs) 2)) (hi : i < hs.length) (hnl : hs.length ≤ 4194304) (hp : ∀ c fr G, ¬ Q (.panic c) fr G) (hfin : ∀ fr G, dh5_J0 hs lb i H fr G → Q .normal fr G) : ∀ fr G, dh5_J1 hs lb i H fr G → AA Try.prog ops_dh5 Q 1 dh5_l1 fr G := by
  have hdl : (hs.drop (i + 1)).length = hs.length - (i + 1) := by simp
  have hsrc : Src H 2 (.slice (some ⟨lb, 0 + (i + 1) * 2, none⟩) (hs.length - (i + 1)) (hs.length - (i + 1) + 1)) (hs.length - (i + 1)) (fl hold (hs.drop (i + 1))) := srcn ((Sl.part (i := i + 1) (m := hs.drop (i + 1)) hold_len hkl rfl rfl (by omega) (List.take_of_length_le (by omega)) (by omega) : Sl H hold 2 (.slice (some ⟨lb, 0 + (i + 1) * 2, none⟩) (hs.length - (i + 1)) (hs.length - (i + 1) + 1)) _).src hold_len (by decide)) hdl
  have hone : (fl hold (hs.drop (i + 1))).all isOne = true := by rw [List.all_eq_true]; intro v hv; obtain ⟨z, _, h⟩ := List.mem_flatMap.mp hv; simp [hold] at h; rcases h with rfl | rfl <;> rfl
  rintro fr G ⟨get, rfl, hk0, hn, g0, g7, g26⟩
  subst hk0
  refine aa_slot (d := 0) (v := .slice (some ⟨lb, 0, none⟩) hs.length (hs.length + 1)) g0 ?_
  refine aa_slot (d := 7) (v := .int .i64 hs.length) g7 ?_
  refine aa_slot (d := 26) (v := .slice (some ⟨lb, 0, none⟩) (hs.length - 1) (hs.length + 1)) g26 ?_
  refine aax1 (i := 7) (by kernel_rfl) ?_
  · exact aa_oL (listed' := dh5_l0) rfl rfl rfl rfl (by kernel_rfl) (ao_as (v := .slice _ _ _) rfl) (dh5_st_0 hkl hi hnl hp hfin _ _ ⟨_, rfl, rfl, hn, rfl, rfl⟩)
set_option maxHeartbeats 4000000 in
theorem dh5_st_2 {hs : List Hold} {lb i : Nat} {H : AHeap} {Q : Exit → AFr → AHeap → Prop} (hkl : H.blk lb = some (.cells (fl hold hs) 2)) (hi : i < hs.length) (hnl : hs.length ≤ 4194304) (hp : ∀ c fr G, ¬ Q (.panic c) fr G) (hfin : ∀ fr G, dh5_J0 hs lb i H fr G → Q .normal fr G) : ∀ fr G, dh5_J2 hs lb i H fr G → AA Try.prog ops_dh5 Q 2 dh5_l2 fr G := by
  have hdl : (hs.drop (i + 1)).length = hs.length - (i + 1) := by simp
  have hsrc : Src H 2 (.slice (some ⟨lb, 0 + (i + 1) * 2, none⟩) (hs.length - (i + 1)) (hs.length - (i + 1) + 1)) (hs.length - (i + 1)) (fl hold (hs.drop (i + 1))) := srcn ((Sl.part (i := i + 1) (m := hs.drop (i + 1)) hold_len hkl rfl rfl (by omega) (List.take_of_length_le (by omega)) (by omega) : Sl H hold 2 (.slice (some ⟨lb, 0 + (i + 1) * 2, none⟩) (hs.length - (i + 1)) (hs.length - (i + 1) + 1)) _).src hold_len (by decide)) hdl
  have hone : (fl hold (hs.drop (i + 1))).all isOne = true := by rw [List.all_eq_true]; intro v hv; obtain ⟨z, _, h⟩ := List.mem_flatMap.mp hv; simp [hold] at h; rcases h with rfl | rfl <;> rfl
  rintro fr G ⟨get, rfl, hk0, hn, g0, g7, g22, g25⟩
  subst hk0
  refine aa_slot (d := 0) (v := .slice (some ⟨lb, 0, none⟩) hs.length (hs.length + 1)) g0 ?_
  refine aa_slot (d := 7) (v := .int .i64 hs.length) g7 ?_
  refine aa_slot (d := 22) (v := .slice (some ⟨lb, 0, none⟩) i (hs.length + 1)) g22 ?_
  refine aa_slot (d := 25) (v := .slice (some ⟨lb, 0 + (i + 1) * 2, none⟩) (hs.length - (i + 1)) (hs.length - (i + 1) + 1)) g25 ?_
  refine aax1 (i := 6) (by kernel_rfl) ?_
  · exact aa_oL (listed' := dh5_l1) rfl rfl rfl rfl (by kernel_rfl) ((ao_appFit Try.underlying36 ⟨_, Try.underlying36⟩ elem54 (by rfl) (by rfl) hkl hsrc hone hi (by omega) (by rw [fl_len hold_len]; omega)).val (v' := .slice (some ⟨lb, 0, none⟩) (hs.length - 1) (hs.length + 1)) (by rw [show i + (hs.length - (i + 1)) = hs.length - 1 by omega])) (dh5_st_1 hkl hi hnl hp hfin _ _ ⟨_, rfl, (by rw [letL_write hold_len hi]), hn, rfl, rfl, rfl⟩)
set_option maxHeartbeats 4000000 in
theorem dh5_st_3 {hs : List Hold} {lb i : Nat} {H : AHeap} {Q : Exit → AFr → AHeap → Prop} (hkl : H.blk lb = some (.cells (fl hold hs) 2)) (hi : i < hs.length) (hnl : hs.length ≤ 4194304) (hp : ∀ c fr G, ¬ Q (.panic c) fr G) (hfin : ∀ fr G, dh5_J0 hs lb i H fr G → Q .normal fr G) : ∀ fr G, dh5_J3 hs lb i H fr G → AA Try.prog ops_dh5 Q 3 dh5_l3 fr G := by
  have hdl : (hs.drop (i + 1)).length = hs.length - (i + 1) := by simp
  have hsrc : Src H 2 (.slice (some ⟨lb, 0 + (i + 1) * 2, none⟩) (hs.length - (i + 1)) (hs.length - (i + 1) + 1)) (hs.length - (i + 1)) (fl hold (hs.drop (i + 1))) := srcn ((Sl.part (i := i + 1) (m := hs.drop (i + 1)) hold_len hkl rfl rfl (by omega) (List.take_of_length_le (by omega)) (by omega) : Sl H hold 2 (.slice (some ⟨lb, 0 + (i + 1) * 2, none⟩) (hs.length - (i + 1)) (hs.length - (i + 1) + 1)) _).src hold_len (by decide)) hdl
  have hone : (fl hold (hs.drop (i + 1))).all isOne = true := by rw [List.all_eq_true]; intro v hv; obtain ⟨z, _, h⟩ := List.mem_flatMap.mp hv; simp [hold] at h; rcases h with rfl | rfl <;> rfl
  rintro fr G ⟨get, rfl, hk0, hn, g0, g7, g22, g23, g24⟩
  subst hk0
  refine aa_slot (d := 0) (v := .slice (some ⟨lb, 0, none⟩) hs.length (hs.length + 1)) g0 ?_
  refine aa_slot (d := 7) (v := .int .i64 hs.length) g7 ?_
  refine aa_slot (d := 22) (v := .slice (some ⟨lb, 0, none⟩) i (hs.length + 1)) g22 ?_
  refine aa_slot (d := 23) (v := .slice (some ⟨lb, 0, none⟩) hs.length (hs.length + 1)) g23 ?_
  refine aa_slot (d := 24) (v := .int .i64 ((i + 1 : Nat) : Int)) g24 ?_
  refine aax1 (i := 5) (by kernel_rfl) ?_
  · exact aa_oL (listed' := dh5_l2) rfl rfl rfl rfl (by kernel_rfl) (ao_sliceLo Try.underlying36 Try.sizeOf54 (by rfl) (by rfl) (by first | rfl | omega) hkl (by rfl) (by omega)) (dh5_st_2 hkl hi hnl hp hfin _ _ ⟨_, rfl, rfl, hn, rfl, rfl, rfl, rfl⟩)
set_option maxHeartbeats 4000000 in
theorem dh5_st_4 {hs : List Hold} {lb i : Nat} {H : AHeap} {Q : Exit → AFr → AHeap → Prop} (hkl : H.blk lb = some (.cells (fl hold hs) 2)) (hi : i < hs.length) (hnl : hs.length ≤ 4194304) (hp : ∀ c fr G, ¬ Q (.panic c) fr G) (hfin : ∀ fr G, dh5_J0 hs lb i H fr G → Q .normal fr G) : ∀ fr G, dh5_J4 hs lb i H fr G → AA Try.prog ops_dh5 Q 3 dh5_l4 fr G := by
  have hdl : (hs.drop (i + 1)).length = hs.length - (i + 1) := by simp
  have hsrc : Src H 2 (.slice (some ⟨lb, 0 + (i + 1) * 2, none⟩) (hs.length - (i + 1)) (hs.length - (i + 1) + 1)) (hs.length - (i + 1)) (fl hold (hs.drop (i + 1))) := srcn ((Sl.part (i := i + 1) (m := hs.drop (i + 1)) hold_len hkl rfl rfl (by omega) (List.take_of_length_le (by omega)) (by omega) : Sl H hold 2 (.slice (some ⟨lb, 0 + (i + 1) * 2, none⟩) (hs.length - (i + 1)) (hs.length - (i + 1) + 1)) _).src hold_len (by decide)) hdl
  have hone : (fl hold (hs.drop (i + 1))).all isOne = true := by rw [List.all_eq_true]; intro v hv; obtain ⟨z, _, h⟩ := List.mem_flatMap.mp hv; simp [hold] at h; rcases h with rfl | rfl <;> rfl
  rintro fr G ⟨get, rfl, hk0, hn, g0, g7, g20, g21, g25⟩
  subst hk0
  refine aa_slot (d := 0) (v := .slice (some ⟨lb, 0, none⟩) hs.length (hs.length + 1)) g0 ?_
  refine aa_slot (d := 7) (v := .int .i64 hs.length) g7 ?_
  refine aa_slot (d := 20) (v := .slice (some ⟨lb, 0, none⟩) hs.length (hs.length + 1)) g20 ?_
  refine aa_slot (d := 21) (v := .int .i64 i) g21 ?_
  refine aa_slot (d := 25) (v := .slice (some ⟨lb, 0 + (i + 1) * 2, none⟩) (hs.length - (i + 1)) (hs.length - (i + 1) + 1)) g25 ?_
  refine aax1 (i := 2) (by kernel_rfl) ?_
  · exact aa_oL (listed' := dh5_l2) rfl rfl rfl rfl (by kernel_rfl) (ao_sliceHiC Try.underlying36 Try.sizeOf54 (by rfl) (by rfl) (by first | rfl | omega) hkl (by omega)) (dh5_st_2 hkl hi hnl hp hfin _ _ ⟨_, rfl, rfl, hn, rfl, rfl, rfl, rfl⟩)
set_option maxHeartbeats 4000000 in
theorem dh5_st_5 {hs : List Hold} {lb i : Nat} {H : AHeap} {Q : Exit → AFr → AHeap → Prop} (hkl : H.blk lb = some (.cells (fl hold hs) 2)) (hi : i < hs.length) (hnl : hs.length ≤ 4194304) (hp : ∀ c fr G, ¬ Q (.panic c) fr G) (hfin : ∀ fr G, dh5_J0 hs lb i H fr G → Q .normal fr G) : ∀ fr G, dh5_J5 hs lb i H fr G → AA Try.prog ops_dh5 Q 4 dh5_l5 fr G := by
  have hdl : (hs.drop (i + 1)).length = hs.length - (i + 1) := by simp
  have hsrc : Src H 2 (.slice (some ⟨lb, 0 + (i + 1) * 2, none⟩) (hs.length - (i + 1)) (hs.length - (i + 1) + 1)) (hs.length - (i + 1)) (fl hold (hs.drop (i + 1))) := srcn ((Sl.part (i := i + 1) (m := hs.drop (i + 1)) hold_len hkl rfl rfl (by omega) (List.take_of_length_le (by omega)) (by omega) : Sl H hold 2 (.slice (some ⟨lb, 0 + (i + 1) * 2, none⟩) (hs.length - (i + 1)) (hs.length - (i + 1) + 1)) _).src hold_len (by decide)) hdl
  have hone : (fl hold (hs.drop (i + 1))).all isOne = true := by rw [List.all_eq_true]; intro v hv; obtain ⟨z, _, h⟩ := List.mem_flatMap.mp hv; simp [hold] at h; rcases h with rfl | rfl <;> rfl
  rintro fr G ⟨get, rfl, hk0, hn, g0, g2, g7, g22, g23⟩
  subst hk0
  refine aa_slot (d := 0) (v := .slice (some ⟨lb, 0, none⟩) hs.length (hs.length + 1)) g0 ?_
  refine aa_slot (d := 2) (v := .int .i64 ((i + 1 : Nat) : Int)) g2 ?_
  refine aa_slot (d := 7) (v := .int .i64 hs.length) g7 ?_
  refine aa_slot (d := 22) (v := .slice (some ⟨lb, 0, none⟩) i (hs.length + 1)) g22 ?_
  refine aa_slot (d := 23) (v := .slice (some ⟨lb, 0, none⟩) hs.length (hs.length + 1)) g23 ?_
  refine aax1 (i := 4) (by kernel_rfl) ?_
  · exact aa_oL (listed' := dh5_l3) rfl rfl rfl rfl (by kernel_rfl) (ao_mv (v := .int _ _) rfl) (dh5_st_3 hkl hi hnl hp hfin _ _ ⟨_, rfl, rfl, hn, rfl, rfl, rfl, rfl, rfl⟩)
set_option maxHeartbeats 4000000 in
theorem dh5_st_6 {hs : List Hold} {lb i : Nat} {H : AHeap} {Q : Exit → AFr → AHeap → Prop} (hkl : H.blk lb = some (.cells (fl hold hs) 2)) (hi : i < hs.length) (hnl : hs.length ≤ 4194304) (hp : ∀ c fr G, ¬ Q (.panic c) fr G) (hfin : ∀ fr G, dh5_J0 hs lb i H fr G → Q .normal fr G) : ∀ fr G, dh5_J6 hs lb i H fr G → AA Try.prog ops_dh5 Q 4 dh5_l6 fr G := by
  have hdl : (hs.drop (i + 1)).length = hs.length - (i + 1) := by simp
  have hsrc : Src H 2 (.slice (some ⟨lb, 0 + (i + 1) * 2, none⟩) (hs.length - (i + 1)) (hs.length - (i + 1) + 1)) (hs.length - (i + 1)) (fl hold (hs.drop (i + 1))) := srcn ((Sl.part (i := i + 1) (m := hs.drop (i + 1)) hold_len hkl rfl rfl (by omega) (List.take_of_length_le (by omega)) (by omega) : Sl H hold 2 (.slice (some ⟨lb, 0 + (i + 1) * 2, none⟩) (hs.length - (i + 1)) (hs.length - (i + 1) + 1)) _).src hold_len (by decide)) hdl
  have hone : (fl hold (hs.drop (i + 1))).all isOne = true := by rw [List.all_eq_true]; intro v hv; obtain ⟨z, _, h⟩ := List.mem_flatMap.mp hv; simp [hold] at h; rcases h with rfl | rfl <;> rfl
  rintro fr G ⟨get, rfl, hk0, hn, g0, g7, g22, g24⟩
  subst hk0
  refine aa_slot (d := 0) (v := .slice (some ⟨lb, 0, none⟩) hs.length (hs.length + 1)) g0 ?_
  refine aa_slot (d := 7) (v := .int .i64 hs.length) g7 ?_
  refine aa_slot (d := 22) (v := .slice (some ⟨lb, 0, none⟩) i (hs.length + 1)) g22 ?_
  refine aa_slot (d := 24) (v := .int .i64 ((i + 1 : Nat) : Int)) g24 ?_
  refine aax1 (i := 3) (by kernel_rfl) ?_
  · exact aa_oL (listed' := dh5_l3) rfl rfl rfl rfl (by kernel_rfl) (ao_mv (v := .slice _ _ _) rfl) (dh5_st_3 hkl hi hnl hp hfin _ _ ⟨_, rfl, rfl, hn, rfl, rfl, rfl, rfl, rfl⟩)
set_option maxHeartbeats 4000000 in
theorem dh5_st_7 {hs : List Hold} {lb i : Nat} {H : AHeap} {Q : Exit → AFr → AHeap → Prop} (hkl : H.blk lb = some (.cells (fl hold hs) 2)) (hi : i < hs.length) (hnl : hs.length ≤ 4194304) (hp : ∀ c fr G, ¬ Q (.panic c) fr G) (hfin : ∀ fr G, dh5_J0 hs lb i H fr G → Q .normal fr G) : ∀ fr G, dh5_J7 hs lb i H fr G → AA Try.prog ops_dh5 Q 4 dh5_l7 fr G := by
  have hdl : (hs.drop (i + 1)).length = hs.length - (i + 1) := by simp
  have hsrc : Src H 2 (.slice (some ⟨lb, 0 + (i + 1) * 2, none⟩) (hs.length - (i + 1)) (hs.length - (i + 1) + 1)) (hs.length - (i + 1)) (fl hold (hs.drop (i + 1))) := srcn ((Sl.part (i := i + 1) (m := hs.drop (i + 1)) hold_len hkl rfl rfl (by omega) (List.take_of_length_le (by omega)) (by omega) : Sl H hold 2 (.slice (some ⟨lb, 0 + (i + 1) * 2, none⟩) (hs.length - (i + 1)) (hs.length - (i + 1) + 1)) _).src hold_len (by decide)) hdl
  have hone : (fl hold (hs.drop (i + 1))).all isOne = true := by rw [List.all_eq_true]; intro v hv; obtain ⟨z, _, h⟩ := List.mem_flatMap.mp hv; simp [hold] at h; rcases h with rfl | rfl <;> rfl
  rintro fr G ⟨get, rfl, hk0, hn, g0, g7, g20, g21, g23, g24⟩
  subst hk0
  refine aa_slot (d := 0) (v := .slice (some ⟨lb, 0, none⟩) hs.length (hs.length + 1)) g0 ?_
  refine aa_slot (d := 7) (v := .int .i64 hs.length) g7 ?_
  refine aa_slot (d := 20) (v := .slice (some ⟨lb, 0, none⟩) hs.length (hs.length + 1)) g20 ?_
  refine aa_slot (d := 21) (v := .int .i64 i) g21 ?_
  refine aa_slot (d := 23) (v := .slice (some ⟨lb, 0, none⟩) hs.length (hs.length + 1)) g23 ?_
  refine aa_slot (d := 24) (v := .int .i64 ((i + 1 : Nat) : Int)) g24 ?_
  refine aax2 (i := 2) (j := 5) (by kernel_rfl) ?_ ?_
  · exact aa_oL (listed' := dh5_l3) rfl rfl rfl rfl (by kernel_rfl) (ao_sliceHiC Try.underlying36 Try.sizeOf54 (by rfl) (by rfl) (by first | rfl | omega) hkl (by omega)) (dh5_st_3 hkl hi hnl hp hfin _ _ ⟨_, rfl, rfl, hn, rfl, rfl, rfl, rfl, rfl⟩)
  · exact aa_oL (listed' := dh5_l4) rfl rfl rfl rfl (by kernel_rfl) (ao_sliceLo Try.underlying36 Try.sizeOf54 (by rfl) (by rfl) (by first | rfl | omega) hkl (by rfl) (by omega)) (dh5_st_4 hkl hi hnl hp hfin _ _ ⟨_, rfl, rfl, hn, rfl, rfl, rfl, rfl, rfl⟩)
set_option maxHeartbeats 4000000 in
theorem dh5_st_8 {hs : List Hold} {lb i : Nat} {H : AHeap} {Q : Exit → AFr → AHeap → Prop} (hkl : H.blk lb = some (.cells (fl hold hs) 2)) (hi : i < hs.length) (hnl : hs.length ≤ 4194304) (hp : ∀ c fr G, ¬ Q (.panic c) fr G) (hfin : ∀ fr G, dh5_J0 hs lb i H fr G → Q .normal fr G) : ∀ fr G, dh5_J8 hs lb i H fr G → AA Try.prog ops_dh5 Q 4 dh5_l8 fr G := by
  have hdl : (hs.drop (i + 1)).length = hs.length - (i + 1) := by simp
  have hsrc : Src H 2 (.slice (some ⟨lb, 0 + (i + 1) * 2, none⟩) (hs.length - (i + 1)) (hs.length - (i + 1) + 1)) (hs.length - (i + 1)) (fl hold (hs.drop (i + 1))) := srcn ((Sl.part (i := i + 1) (m := hs.drop (i + 1)) hold_len hkl rfl rfl (by omega) (List.take_of_length_le (by omega)) (by omega) : Sl H hold 2 (.slice (some ⟨lb, 0 + (i + 1) * 2, none⟩) (hs.length - (i + 1)) (hs.length - (i + 1) + 1)) _).src hold_len (by decide)) hdl
  have hone : (fl hold (hs.drop (i + 1))).all isOne = true := by rw [List.all_eq_true]; intro v hv; obtain ⟨z, _, h⟩ := List.mem_flatMap.mp hv; simp [hold] at h; rcases h with rfl | rfl <;> rfl
  rintro fr G ⟨get, rfl, hk0, hn, g0, g1, g7, g20, g25⟩
  subst hk0
  refine aa_slot (d := 0) (v := .slice (some ⟨lb, 0, none⟩) hs.length (hs.length + 1)) g0 ?_
  refine aa_slot (d := 1) (v := .int .i64 i) g1 ?_
  refine aa_slot (d := 7) (v := .int .i64 hs.length) g7 ?_
  refine aa_slot (d := 20) (v := .slice (some ⟨lb, 0, none⟩) hs.length (hs.length + 1)) g20 ?_
  refine aa_slot (d := 25) (v := .slice (some ⟨lb, 0 + (i + 1) * 2, none⟩) (hs.length - (i + 1)) (hs.length - (i + 1) + 1)) g25 ?_
  refine aax1 (i := 1) (by kernel_rfl) ?_
  · exact aa_oL (listed' := dh5_l4) rfl rfl rfl rfl (by kernel_rfl) (ao_mv (v := .int _ _) rfl) (dh5_st_4 hkl hi hnl hp hfin _ _ ⟨_, rfl, rfl, hn, rfl, rfl, rfl, rfl, rfl⟩)
set_option maxHeartbeats 4000000 in
theorem dh5_st_9 {hs : List Hold} {lb i : Nat} {H : AHeap} {Q : Exit → AFr → AHeap → Prop} (hkl : H.blk lb = some (.cells (fl hold hs) 2)) (hi : i < hs.length) (hnl : hs.length ≤ 4194304) (hp : ∀ c fr G, ¬ Q (.panic c) fr G) (hfin : ∀ fr G, dh5_J0 hs lb i H fr G → Q .normal fr G) : ∀ fr G, dh5_J9 hs lb i H fr G → AA Try.prog ops_dh5 Q 4 dh5_l9 fr G := by
  have hdl : (hs.drop (i + 1)).length = hs.length - (i + 1) := by simp
  have hsrc : Src H 2 (.slice (some ⟨lb, 0 + (i + 1) * 2, none⟩) (hs.length - (i + 1)) (hs.length - (i + 1) + 1)) (hs.length - (i + 1)) (fl hold (hs.drop (i + 1))) := srcn ((Sl.part (i := i + 1) (m := hs.drop (i + 1)) hold_len hkl rfl rfl (by omega) (List.take_of_length_le (by omega)) (by omega) : Sl H hold 2 (.slice (some ⟨lb, 0 + (i + 1) * 2, none⟩) (hs.length - (i + 1)) (hs.length - (i + 1) + 1)) _).src hold_len (by decide)) hdl
  have hone : (fl hold (hs.drop (i + 1))).all isOne = true := by rw [List.all_eq_true]; intro v hv; obtain ⟨z, _, h⟩ := List.mem_flatMap.mp hv; simp [hold] at h; rcases h with rfl | rfl <;> rfl
  rintro fr G ⟨get, rfl, hk0, hn, g0, g7, g21, g25⟩
  subst hk0
  refine aa_slot (d := 0) (v := .slice (some ⟨lb, 0, none⟩) hs.length (hs.length + 1)) g0 ?_
  refine aa_slot (d := 7) (v := .int .i64 hs.length) g7 ?_
  refine aa_slot (d := 21) (v := .int .i64 i) g21 ?_
  refine aa_slot (d := 25) (v := .slice (some ⟨lb, 0 + (i + 1) * 2, none⟩) (hs.length - (i + 1)) (hs.length - (i + 1) + 1)) g25 ?_
  refine aax1 (i := 0) (by kernel_rfl) ?_
  · exact aa_oL (listed' := dh5_l4) rfl rfl rfl rfl (by kernel_rfl) (ao_mv (v := .slice _ _ _) rfl) (dh5_st_4 hkl hi hnl hp hfin _ _ ⟨_, rfl, rfl, hn, rfl, rfl, rfl, rfl, rfl⟩)
set_option maxHeartbeats 4000000 in
theorem dh5_st_10 {hs : List Hold} {lb i : Nat} {H : AHeap} {Q : Exit → AFr → AHeap → Prop} (hkl : H.blk lb = some (.cells (fl hold hs) 2)) (hi : i < hs.length) (hnl : hs.length ≤ 4194304) (hp : ∀ c fr G, ¬ Q (.panic c) fr G) (hfin : ∀ fr G, dh5_J0 hs lb i H fr G → Q .normal fr G) : ∀ fr G, dh5_J10 hs lb i H fr G → AA Try.prog ops_dh5 Q 5 dh5_l10 fr G := by
  have hdl : (hs.drop (i + 1)).length = hs.length - (i + 1) := by simp
  have hsrc : Src H 2 (.slice (some ⟨lb, 0 + (i + 1) * 2, none⟩) (hs.length - (i + 1)) (hs.length - (i + 1) + 1)) (hs.length - (i + 1)) (fl hold (hs.drop (i + 1))) := srcn ((Sl.part (i := i + 1) (m := hs.drop (i + 1)) hold_len hkl rfl rfl (by omega) (List.take_of_length_le (by omega)) (by omega) : Sl H hold 2 (.slice (some ⟨lb, 0 + (i + 1) * 2, none⟩) (hs.length - (i + 1)) (hs.length - (i + 1) + 1)) _).src hold_len (by decide)) hdl
  have hone : (fl hold (hs.drop (i + 1))).all isOne = true := by rw [List.all_eq_true]; intro v hv; obtain ⟨z, _, h⟩ := List.mem_flatMap.mp hv; simp [hold] at h; rcases h with rfl | rfl <;> rfl
  rintro fr G ⟨get, rfl, hk0, hn, g0, g2, g7, g22⟩
  subst hk0
  refine aa_slot (d := 0) (v := .slice (some ⟨lb, 0, none⟩) hs.length (hs.length + 1)) g0 ?_
  refine aa_slot (d := 2) (v := .int .i64 ((i + 1 : Nat) : Int)) g2 ?_
  refine aa_slot (d := 7) (v := .int .i64 hs.length) g7 ?_
  refine aa_slot (d := 22) (v := .slice (some ⟨lb, 0, none⟩) i (hs.length + 1)) g22 ?_
  refine aax2 (i := 3) (j := 4) (by kernel_rfl) ?_ ?_
  · exact aa_oL (listed' := dh5_l5) rfl rfl rfl rfl (by kernel_rfl) (ao_mv (v := .slice _ _ _) rfl) (dh5_st_5 hkl hi hnl hp hfin _ _ ⟨_, rfl, rfl, hn, rfl, rfl, rfl, rfl, rfl⟩)
  · exact aa_oL (listed' := dh5_l6) rfl rfl rfl rfl (by kernel_rfl) (ao_mv (v := .int _ _) rfl) (dh5_st_6 hkl hi hnl hp hfin _ _ ⟨_, rfl, rfl, hn, rfl, rfl, rfl, rfl⟩)
set_option maxHeartbeats 4000000 in
theorem dh5_st_11 {hs : List Hold} {lb i : Nat} {H : AHeap} {Q : Exit → AFr → AHeap → Prop} (hkl : H.blk lb = some (.cells (fl hold hs) 2)) (hi : i < hs.length) (hnl : hs.length ≤ 4194304) (hp : ∀ c fr G, ¬ Q (.panic c) fr G) (hfin : ∀ fr G, dh5_J0 hs lb i H fr G → Q .normal fr G) : ∀ fr G, dh5_J11 hs lb i H fr G → AA Try.prog ops_dh5 Q 5 dh5_l11 fr G := by
  have hdl : (hs.drop (i + 1)).length = hs.length - (i + 1) := by simp
  have hsrc : Src H 2 (.slice (some ⟨lb, 0 + (i + 1) * 2, none⟩) (hs.length - (i + 1)) (hs.length - (i + 1) + 1)) (hs.length - (i + 1)) (fl hold (hs.drop (i + 1))) := srcn ((Sl.part (i := i + 1) (m := hs.drop (i + 1)) hold_len hkl rfl rfl (by omega) (List.take_of_length_le (by omega)) (by omega) : Sl H hold 2 (.slice (some ⟨lb, 0 + (i + 1) * 2, none⟩) (hs.length - (i + 1)) (hs.length - (i + 1) + 1)) _).src hold_len (by decide)) hdl
  have hone : (fl hold (hs.drop (i + 1))).all isOne = true := by rw [List.all_eq_true]; intro v hv; obtain ⟨z, _, h⟩ := List.mem_flatMap.mp hv; simp [hold] at h; rcases h with rfl | rfl <;> rfl
  rintro fr G ⟨get, rfl, hk0, hn, g0, g2, g7, g20, g21, g23⟩
  subst hk0
  refine aa_slot (d := 0) (v := .slice (some ⟨lb, 0, none⟩) hs.length (hs.length + 1)) g0 ?_
  refine aa_slot (d := 2) (v := .int .i64 ((i + 1 : Nat) : Int)) g2 ?_
  refine aa_slot (d := 7) (v := .int .i64 hs.length) g7 ?_
  refine aa_slot (d := 20) (v := .slice (some ⟨lb, 0, none⟩) hs.length (hs.length + 1)) g20 ?_
  refine aa_slot (d := 21) (v := .int .i64 i) g21 ?_
  refine aa_slot (d := 23) (v := .slice (some ⟨lb, 0, none⟩) hs.length (hs.length + 1)) g23 ?_
  refine aax2 (i := 2) (j := 4) (by kernel_rfl) ?_ ?_
  · exact aa_oL (listed' := dh5_l5) rfl rfl rfl rfl (by kernel_rfl) (ao_sliceHiC Try.underlying36 Try.sizeOf54 (by rfl) (by rfl) (by first | rfl | omega) hkl (by omega)) (dh5_st_5 hkl hi hnl hp hfin _ _ ⟨_, rfl, rfl, hn, rfl, rfl, rfl, rfl, rfl⟩)
  · exact aa_oL (listed' := dh5_l7) rfl rfl rfl rfl (by kernel_rfl) (ao_mv (v := .int _ _) rfl) (dh5_st_7 hkl hi hnl hp hfin _ _ ⟨_, rfl, rfl, hn, rfl, rfl, rfl, rfl, rfl, rfl⟩)
set_option maxHeartbeats 4000000 in
theorem dh5_st_12 {hs : List Hold} {lb i : Nat} {H : AHeap} {Q : Exit → AFr → AHeap → Prop} (hkl : H.blk lb = some (.cells (fl hold hs) 2)) (hi : i < hs.length) (hnl : hs.length ≤ 4194304) (hp : ∀ c fr G, ¬ Q (.panic c) fr G) (hfin : ∀ fr G, dh5_J0 hs lb i H fr G → Q .normal fr G) : ∀ fr G, dh5_J12 hs lb i H fr G → AA Try.prog ops_dh5 Q 5 dh5_l12 fr G := by
  have hdl : (hs.drop (i + 1)).length = hs.length - (i + 1) := by simp
  have hsrc : Src H 2 (.slice (some ⟨lb, 0 + (i + 1) * 2, none⟩) (hs.length - (i + 1)) (hs.length - (i + 1) + 1)) (hs.length - (i + 1)) (fl hold (hs.drop (i + 1))) := srcn ((Sl.part (i := i + 1) (m := hs.drop (i + 1)) hold_len hkl rfl rfl (by omega) (List.take_of_length_le (by omega)) (by omega) : Sl H hold 2 (.slice (some ⟨lb, 0 + (i + 1) * 2, none⟩) (hs.length - (i + 1)) (hs.length - (i + 1) + 1)) _).src hold_len (by decide)) hdl
  have hone : (fl hold (hs.drop (i + 1))).all isOne = true := by rw [List.all_eq_true]; intro v hv; obtain ⟨z, _, h⟩ := List.mem_flatMap.mp hv; simp [hold] at h; rcases h with rfl | rfl <;> rfl
  rintro fr G ⟨get, rfl, hk0, hn, g0, g7, g20, g21, g24⟩
  subst hk0
  refine aa_slot (d := 0) (v := .slice (some ⟨lb, 0, none⟩) hs.length (hs.length + 1)) g0 ?_
  refine aa_slot (d := 7) (v := .int .i64 hs.length) g7 ?_
  refine aa_slot (d := 20) (v := .slice (some ⟨lb, 0, none⟩) hs.length (hs.length + 1)) g20 ?_
  refine aa_slot (d := 21) (v := .int .i64 i) g21 ?_
  refine aa_slot (d := 24) (v := .int .i64 ((i + 1 : Nat) : Int)) g24 ?_
  refine aax2 (i := 2) (j := 3) (by kernel_rfl) ?_ ?_
  · exact aa_oL (listed' := dh5_l6) rfl rfl rfl rfl (by kernel_rfl) (ao_sliceHiC Try.underlying36 Try.sizeOf54 (by rfl) (by rfl) (by first | rfl | omega) hkl (by omega)) (dh5_st_6 hkl hi hnl hp hfin _ _ ⟨_, rfl, rfl, hn, rfl, rfl, rfl, rfl⟩)
  · exact aa_oL (listed' := dh5_l7) rfl rfl rfl rfl (by kernel_rfl) (ao_mv (v := .slice _ _ _) rfl) (dh5_st_7 hkl hi hnl hp hfin _ _ ⟨_, rfl, rfl, hn, rfl, rfl, rfl, rfl, rfl, rfl⟩)
set_option maxHeartbeats 4000000 in
theorem dh5_st_13 {hs : List Hold} {lb i : Nat} {H : AHeap} {Q : Exit → AFr → AHeap → Prop} (hkl : H.blk lb = some (.cells (fl hold hs) 2)) (hi : i < hs.length) (hnl : hs.length ≤ 4194304) (hp : ∀ c fr G, ¬ Q (.panic c) fr G) (hfin : ∀ fr G, dh5_J0 hs lb i H fr G → Q .normal fr G) : ∀ fr G, dh5_J13 hs lb i H fr G → AA Try.prog ops_dh5 Q 5 dh5_l13 fr G := by
  have hdl : (hs.drop (i + 1)).length = hs.length - (i + 1) := by simp
  have hsrc : Src H 2 (.slice (some ⟨lb, 0 + (i + 1) * 2, none⟩) (hs.length - (i + 1)) (hs.length - (i + 1) + 1)) (hs.length - (i + 1)) (fl hold (hs.drop (i + 1))) := srcn ((Sl.part (i := i + 1) (m := hs.drop (i + 1)) hold_len hkl rfl rfl (by omega) (List.take_of_length_le (by omega)) (by omega) : Sl H hold 2 (.slice (some ⟨lb, 0 + (i + 1) * 2, none⟩) (hs.length - (i + 1)) (hs.length - (i + 1) + 1)) _).src hold_len (by decide)) hdl
  have hone : (fl hold (hs.drop (i + 1))).all isOne = true := by rw [List.all_eq_true]; intro v hv; obtain ⟨z, _, h⟩ := List.mem_flatMap.mp hv; simp [hold] at h; rcases h with rfl | rfl <;> rfl
  rintro fr G ⟨get, rfl, hk0, hn, g0, g1, g7, g20, g23, g24⟩
  subst hk0
  refine aa_slot (d := 0) (v := .slice (some ⟨lb, 0, none⟩) hs.length (hs.length + 1)) g0 ?_
  refine aa_slot (d := 1) (v := .int .i64 i) g1 ?_
  refine aa_slot (d := 7) (v := .int .i64 hs.length) g7 ?_
  refine aa_slot (d := 20) (v := .slice (some ⟨lb, 0, none⟩) hs.length (hs.length + 1)) g20 ?_
  refine aa_slot (d := 23) (v := .slice (some ⟨lb, 0, none⟩) hs.length (hs.length + 1)) g23 ?_
  refine aa_slot (d := 24) (v := .int .i64 ((i + 1 : Nat) : Int)) g24 ?_
  refine aax2 (i := 1) (j := 5) (by kernel_rfl) ?_ ?_
  · exact aa_oL (listed' := dh5_l7) rfl rfl rfl rfl (by kernel_rfl) (ao_mv (v := .int _ _) rfl) (dh5_st_7 hkl hi hnl hp hfin _ _ ⟨_, rfl, rfl, hn, rfl, rfl, rfl, rfl, rfl, rfl⟩)
  · exact aa_oL (listed' := dh5_l8) rfl rfl rfl rfl (by kernel_rfl) (ao_sliceLo Try.underlying36 Try.sizeOf54 (by rfl) (by rfl) (by first | rfl | omega) hkl (by rfl) (by omega)) (dh5_st_8 hkl hi hnl hp hfin _ _ ⟨_, rfl, rfl, hn, rfl, rfl, rfl, rfl, rfl⟩)
set_option maxHeartbeats 4000000 in
theorem dh5_st_14 {hs : List Hold} {lb i : Nat} {H : AHeap} {Q : Exit → AFr → AHeap → Prop} (hkl : H.blk lb = some (.cells (fl hold hs) 2)) (hi : i < hs.length) (hnl : hs.length ≤ 4194304) (hp : ∀ c fr G, ¬ Q (.panic c) fr G) (hfin : ∀ fr G, dh5_J0 hs lb i H fr G → Q .normal fr G) : ∀ fr G, dh5_J14 hs lb i H fr G → AA Try.prog ops_dh5 Q 5 dh5_l14 fr G := by
  have hdl : (hs.drop (i + 1)).length = hs.length - (i + 1) := by simp
  have hsrc : Src H 2 (.slice (some ⟨lb, 0 + (i + 1) * 2, none⟩) (hs.length - (i + 1)) (hs.length - (i + 1) + 1)) (hs.length - (i + 1)) (fl hold (hs.drop (i + 1))) := srcn ((Sl.part (i := i + 1) (m := hs.drop (i + 1)) hold_len hkl rfl rfl (by omega) (List.take_of_length_le (by omega)) (by omega) : Sl H hold 2 (.slice (some ⟨lb, 0 + (i + 1) * 2, none⟩) (hs.length - (i + 1)) (hs.length - (i + 1) + 1)) _).src hold_len (by decide)) hdl
  have hone : (fl hold (hs.drop (i + 1))).all isOne = true := by rw [List.all_eq_true]; intro v hv; obtain ⟨z, _, h⟩ := List.mem_flatMap.mp hv; simp [hold] at h; rcases h with rfl | rfl <;> rfl
  rintro fr G ⟨get, rfl, hk0, hn, g0, g7, g21, g23, g24⟩
  subst hk0
  refine aa_slot (d := 0) (v := .slice (some ⟨lb, 0, none⟩) hs.length (hs.length + 1)) g0 ?_
  refine aa_slot (d := 7) (v := .int .i64 hs.length) g7 ?_
  refine aa_slot (d := 21) (v := .int .i64 i) g21 ?_
  refine aa_slot (d := 23) (v := .slice (some ⟨lb, 0, none⟩) hs.length (hs.length + 1)) g23 ?_
  refine aa_slot (d := 24) (v := .int .i64 ((i + 1 : Nat) : Int)) g24 ?_
  refine aax2 (i := 0) (j := 5) (by kernel_rfl) ?_ ?_
  · exact aa_oL (listed' := dh5_l7) rfl rfl rfl rfl (by kernel_rfl) (ao_mv (v := .slice _ _ _) rfl) (dh5_st_7 hkl hi hnl hp hfin _ _ ⟨_, rfl, rfl, hn, rfl, rfl, rfl, rfl, rfl, rfl⟩)
  · exact aa_oL (listed' := dh5_l9) rfl rfl rfl rfl (by kernel_rfl) (ao_sliceLo Try.underlying36 Try.sizeOf54 (by rfl) (by rfl) (by first | rfl | omega) hkl (by rfl) (by omega)) (dh5_st_9 hkl hi hnl hp hfin _ _ ⟨_, rfl, rfl, hn, rfl, rfl, rfl, rfl⟩)
set_option maxHeartbeats 4000000 in
theorem dh5_st_15 {hs : List Hold} {lb i : Nat} {H : AHeap} {Q : Exit → AFr → AHeap → Prop} (hkl : H.blk lb = some (.cells (fl hold hs) 2)) (hi : i < hs.length) (hnl : hs.length ≤ 4194304) (hp : ∀ c fr G, ¬ Q (.panic c) fr G) (hfin : ∀ fr G, dh5_J0 hs lb i H fr G → Q .normal fr G) : ∀ fr G, dh5_J15 hs lb i H fr G → AA Try.prog ops_dh5 Q 5 dh5_l15 fr G := by
  have hdl : (hs.drop (i + 1)).length = hs.length - (i + 1) := by simp
  have hsrc : Src H 2 (.slice (some ⟨lb, 0 + (i + 1) * 2, none⟩) (hs.length - (i + 1)) (hs.length - (i + 1) + 1)) (hs.length - (i + 1)) (fl hold (hs.drop (i + 1))) := srcn ((Sl.part (i := i + 1) (m := hs.drop (i + 1)) hold_len hkl rfl rfl (by omega) (List.take_of_length_le (by omega)) (by omega) : Sl H hold 2 (.slice (some ⟨lb, 0 + (i + 1) * 2, none⟩) (hs.length - (i + 1)) (hs.length - (i + 1) + 1)) _).src hold_len (by decide)) hdl
  have hone : (fl hold (hs.drop (i + 1))).all isOne = true := by rw [List.all_eq_true]; intro v hv; obtain ⟨z, _, h⟩ := List.mem_flatMap.mp hv; simp [hold] at h; rcases h with rfl | rfl <;> rfl
  rintro fr G ⟨get, rfl, hk0, hn, g0, g1, g7, g25⟩
  subst hk0
  refine aa_slot (d := 0) (v := .slice (some ⟨lb, 0, none⟩) hs.length (hs.length + 1)) g0 ?_
  refine aa_slot (d := 1) (v := .int .i64 i) g1 ?_
  refine aa_slot (d := 7) (v := .int .i64 hs.length) g7 ?_
  refine aa_slot (d := 25) (v := .slice (some ⟨lb, 0 + (i + 1) * 2, none⟩) (hs.length - (i + 1)) (hs.length - (i + 1) + 1)) g25 ?_
  refine aax2 (i := 0) (j := 1) (by kernel_rfl) ?_ ?_
  · exact aa_oL (listed' := dh5_l8) rfl rfl rfl rfl (by kernel_rfl) (ao_mv (v := .slice _ _ _) rfl) (dh5_st_8 hkl hi hnl hp hfin _ _ ⟨_, rfl, rfl, hn, rfl, rfl, rfl, rfl, rfl⟩)
  · exact aa_oL (listed' := dh5_l9) rfl rfl rfl rfl (by kernel_rfl) (ao_mv (v := .int _ _) rfl) (dh5_st_9 hkl hi hnl hp hfin _ _ ⟨_, rfl, rfl, hn, rfl, rfl, rfl, rfl⟩)
set_option maxHeartbeats 4000000 in
theorem dh5_st_16 {hs : List Hold} {lb i : Nat} {H : AHeap} {Q : Exit → AFr → AHeap → Prop} (hkl : H.blk lb = some (.cells (fl hold hs) 2)) (hi : i < hs.length) (hnl : hs.length ≤ 4194304) (hp : ∀ c fr G, ¬ Q (.panic c) fr G) (hfin : ∀ fr G, dh5_J0 hs lb i H fr G → Q .normal fr G) : ∀ fr G, dh5_J16 hs lb i H fr G → AA Try.prog ops_dh5 Q 6 dh5_l16 fr G := by
  have hdl : (hs.drop (i + 1)).length = hs.length - (i + 1) := by simp
  have hsrc : Src H 2 (.slice (some ⟨lb, 0 + (i + 1) * 2, none⟩) (hs.length - (i + 1)) (hs.length - (i + 1) + 1)) (hs.length - (i + 1)) (fl hold (hs.drop (i + 1))) := srcn ((Sl.part (i := i + 1) (m := hs.drop (i + 1)) hold_len hkl rfl rfl (by omega) (List.take_of_length_le (by omega)) (by omega) : Sl H hold 2 (.slice (some ⟨lb, 0 + (i + 1) * 2, none⟩) (hs.length - (i + 1)) (hs.length - (i + 1) + 1)) _).src hold_len (by decide)) hdl
  have hone : (fl hold (hs.drop (i + 1))).all isOne = true := by rw [List.all_eq_true]; intro v hv; obtain ⟨z, _, h⟩ := List.mem_flatMap.mp hv; simp [hold] at h; rcases h with rfl | rfl <;> rfl
  rintro fr G ⟨get, rfl, hk0, hn, g0, g2, g7, g20, g21⟩
  subst hk0
  refine aa_slot (d := 0) (v := .slice (some ⟨lb, 0, none⟩) hs.length (hs.length + 1)) g0 ?_
  refine aa_slot (d := 2) (v := .int .i64 ((i + 1 : Nat) : Int)) g2 ?_
  refine aa_slot (d := 7) (v := .int .i64 hs.length) g7 ?_
  refine aa_slot (d := 20) (v := .slice (some ⟨lb, 0, none⟩) hs.length (hs.length + 1)) g20 ?_
  refine aa_slot (d := 21) (v := .int .i64 i) g21 ?_
  refine aax3 (i := 2) (j := 3) (l := 4) (by kernel_rfl) ?_ ?_ ?_
  · exact aa_oL (listed' := dh5_l10) rfl rfl rfl rfl (by kernel_rfl) (ao_sliceHiC Try.underlying36 Try.sizeOf54 (by rfl) (by rfl) (by first | rfl | omega) hkl (by omega)) (dh5_st_10 hkl hi hnl hp hfin _ _ ⟨_, rfl, rfl, hn, rfl, rfl, rfl, rfl⟩)
  · exact aa_oL (listed' := dh5_l11) rfl rfl rfl rfl (by kernel_rfl) (ao_mv (v := .slice _ _ _) rfl) (dh5_st_11 hkl hi hnl hp hfin _ _ ⟨_, rfl, rfl, hn, rfl, rfl, rfl, rfl, rfl, rfl⟩)
  · exact aa_oL (listed' := dh5_l12) rfl rfl rfl rfl (by kernel_rfl) (ao_mv (v := .int _ _) rfl) (dh5_st_12 hkl hi hnl hp hfin _ _ ⟨_, rfl, rfl, hn, rfl, rfl, rfl, rfl, rfl⟩)
set_option maxHeartbeats 4000000 in
theorem dh5_st_17 {hs : List Hold} {lb i : Nat} {H : AHeap} {Q : Exit → AFr → AHeap → Prop} (hkl : H.blk lb = some (.cells (fl hold hs) 2)) (hi : i < hs.length) (hnl : hs.length ≤ 4194304) (hp : ∀ c fr G, ¬ Q (.panic c) fr G) (hfin : ∀ fr G, dh5_J0 hs lb i H fr G → Q .normal fr G) : ∀ fr G, dh5_J17 hs lb i H fr G → AA Try.prog ops_dh5 Q 6 dh5_l17 fr G := by
  have hdl : (hs.drop (i + 1)).length = hs.length - (i + 1) := by simp
  have hsrc : Src H 2 (.slice (some ⟨lb, 0 + (i + 1) * 2, none⟩) (hs.length - (i + 1)) (hs.length - (i + 1) + 1)) (hs.length - (i + 1)) (fl hold (hs.drop (i + 1))) := srcn ((Sl.part (i := i + 1) (m := hs.drop (i + 1)) hold_len hkl rfl rfl (by omega) (List.take_of_length_le (by omega)) (by omega) : Sl H hold 2 (.slice (some ⟨lb, 0 + (i + 1) * 2, none⟩) (hs.length - (i + 1)) (hs.length - (i + 1) + 1)) _).src hold_len (by decide)) hdl
  have hone : (fl hold (hs.drop (i + 1))).all isOne = true := by rw [List.all_eq_true]; intro v hv; obtain ⟨z, _, h⟩ := List.mem_flatMap.mp hv; simp [hold] at h; rcases h with rfl | rfl <;> rfl
  rintro fr G ⟨get, rfl, hk0, hn, g0, g1, g2, g7, g20, g23⟩
  subst hk0
  refine aa_slot (d := 0) (v := .slice (some ⟨lb, 0, none⟩) hs.length (hs.length + 1)) g0 ?_
  refine aa_slot (d := 1) (v := .int .i64 i) g1 ?_
  refine aa_slot (d := 2) (v := .int .i64 ((i + 1 : Nat) : Int)) g2 ?_
  refine aa_slot (d := 7) (v := .int .i64 hs.length) g7 ?_
  refine aa_slot (d := 20) (v := .slice (some ⟨lb, 0, none⟩) hs.length (hs.length + 1)) g20 ?_
  refine aa_slot (d := 23) (v := .slice (some ⟨lb, 0, none⟩) hs.length (hs.length + 1)) g23 ?_
  refine aax2 (i := 1) (j := 4) (by kernel_rfl) ?_ ?_
  · exact aa_oL (listed' := dh5_l11) rfl rfl rfl rfl (by kernel_rfl) (ao_mv (v := .int _ _) rfl) (dh5_st_11 hkl hi hnl hp hfin _ _ ⟨_, rfl, rfl, hn, rfl, rfl, rfl, rfl, rfl, rfl⟩)
  · exact aa_oL (listed' := dh5_l13) rfl rfl rfl rfl (by kernel_rfl) (ao_mv (v := .int _ _) rfl) (dh5_st_13 hkl hi hnl hp hfin _ _ ⟨_, rfl, rfl, hn, rfl, rfl, rfl, rfl, rfl, rfl⟩)
set_option maxHeartbeats 4000000 in
theorem dh5_st_18 {hs : List Hold} {lb i : Nat} {H : AHeap} {Q : Exit → AFr → AHeap → Prop} (hkl : H.blk lb = some (.cells (fl hold hs) 2)) (hi : i < hs.length) (hnl : hs.length ≤ 4194304) (hp : ∀ c fr G, ¬ Q (.panic c) fr G) (hfin : ∀ fr G, dh5_J0 hs lb i H fr G → Q .normal fr G) : ∀ fr G, dh5_J18 hs lb i H fr G → AA Try.prog ops_dh5 Q 6 dh5_l18 fr G := by
  have hdl : (hs.drop (i + 1)).length = hs.length - (i + 1) := by simp
  have hsrc : Src H 2 (.slice (some ⟨lb, 0 + (i + 1) * 2, none⟩) (hs.length - (i + 1)) (hs.length - (i + 1) + 1)) (hs.length - (i + 1)) (fl hold (hs.drop (i + 1))) := srcn ((Sl.part (i := i + 1) (m := hs.drop (i + 1)) hold_len hkl rfl rfl (by omega) (List.take_of_length_le (by omega)) (by omega) : Sl H hold 2 (.slice (some ⟨lb, 0 + (i + 1) * 2, none⟩) (hs.length - (i + 1)) (hs.length - (i + 1) + 1)) _).src hold_len (by decide)) hdl
  have hone : (fl hold (hs.drop (i + 1))).all isOne = true := by rw [List.all_eq_true]; intro v hv; obtain ⟨z, _, h⟩ := List.mem_flatMap.mp hv; simp [hold] at h; rcases h with rfl | rfl <;> rfl
  rintro fr G ⟨get, rfl, hk0, hn, g0, g1, g7, g20, g24⟩
  subst hk0
  refine aa_slot (d := 0) (v := .slice (some ⟨lb, 0, none⟩) hs.length (hs.length + 1)) g0 ?_
  refine aa_slot (d := 1) (v := .int .i64 i) g1 ?_
  refine aa_slot (d := 7) (v := .int .i64 hs.length) g7 ?_
  refine aa_slot (d := 20) (v := .slice (some ⟨lb, 0, none⟩) hs.length (hs.length + 1)) g20 ?_
  refine aa_slot (d := 24) (v := .int .i64 ((i + 1 : Nat) : Int)) g24 ?_
  refine aax2 (i := 1) (j := 3) (by kernel_rfl) ?_ ?_
  · exact aa_oL (listed' := dh5_l12) rfl rfl rfl rfl (by kernel_rfl) (ao_mv (v := .int _ _) rfl) (dh5_st_12 hkl hi hnl hp hfin _ _ ⟨_, rfl, rfl, hn, rfl, rfl, rfl, rfl, rfl⟩)
  · exact aa_oL (listed' := dh5_l13) rfl rfl rfl rfl (by kernel_rfl) (ao_mv (v := .slice _ _ _) rfl) (dh5_st_13 hkl hi hnl hp hfin _ _ ⟨_, rfl, rfl, hn, rfl, rfl, rfl, rfl, rfl, rfl⟩)
set_option maxHeartbeats 4000000 in
theorem dh5_st_19 {hs : List Hold} {lb i : Nat} {H : AHeap} {Q : Exit → AFr → AHeap → Prop} (hkl : H.blk lb = some (.cells (fl hold hs) 2)) (hi : i < hs.length) (hnl : hs.length ≤ 4194304) (hp : ∀ c fr G, ¬ Q (.panic c) fr G) (hfin : ∀ fr G, dh5_J0 hs lb i H fr G → Q .normal fr G) : ∀ fr G, dh5_J19 hs lb i H fr G → AA Try.prog ops_dh5 Q 6 dh5_l19 fr G := by
  have hdl : (hs.drop (i + 1)).length = hs.length - (i + 1) := by simp
  have hsrc : Src H 2 (.slice (some ⟨lb, 0 + (i + 1) * 2, none⟩) (hs.length - (i + 1)) (hs.length - (i + 1) + 1)) (hs.length - (i + 1)) (fl hold (hs.drop (i + 1))) := srcn ((Sl.part (i := i + 1) (m := hs.drop (i + 1)) hold_len hkl rfl rfl (by omega) (List.take_of_length_le (by omega)) (by omega) : Sl H hold 2 (.slice (some ⟨lb, 0 + (i + 1) * 2, none⟩) (hs.length - (i + 1)) (hs.length - (i + 1) + 1)) _).src hold_len (by decide)) hdl
  have hone : (fl hold (hs.drop (i + 1))).all isOne = true := by rw [List.all_eq_true]; intro v hv; obtain ⟨z, _, h⟩ := List.mem_flatMap.mp hv; simp [hold] at h; rcases h with rfl | rfl <;> rfl
  rintro fr G ⟨get, rfl, hk0, hn, g0, g2, g7, g21, g23⟩
  subst hk0
  refine aa_slot (d := 0) (v := .slice (some ⟨lb, 0, none⟩) hs.length (hs.length + 1)) g0 ?_
  refine aa_slot (d := 2) (v := .int .i64 ((i + 1 : Nat) : Int)) g2 ?_
  refine aa_slot (d := 7) (v := .int .i64 hs.length) g7 ?_
  refine aa_slot (d := 21) (v := .int .i64 i) g21 ?_
  refine aa_slot (d := 23) (v := .slice (some ⟨lb, 0, none⟩) hs.length (hs.length + 1)) g23 ?_
  refine aax2 (i := 0) (j := 4) (by kernel_rfl) ?_ ?_
  · exact aa_oL (listed' := dh5_l11) rfl rfl rfl rfl (by kernel_rfl) (ao_mv (v := .slice _ _ _) rfl) (dh5_st_11 hkl hi hnl hp hfin _ _ ⟨_, rfl, rfl, hn, rfl, rfl, rfl, rfl, rfl, rfl⟩)
  · exact aa_oL (listed' := dh5_l14) rfl rfl rfl rfl (by kernel_rfl) (ao_mv (v := .int _ _) rfl) (dh5_st_14 hkl hi hnl hp hfin _ _ ⟨_, rfl, rfl, hn, rfl, rfl, rfl, rfl, rfl⟩)
set_option maxHeartbeats 4000000 in
theorem dh5_st_20 {hs : List Hold} {lb i : Nat} {H : AHeap} {Q : Exit → AFr → AHeap → Prop} (hkl : H.blk lb = some (.cells (fl hold hs) 2)) (hi : i < hs.length) (hnl : hs.length ≤ 4194304) (hp : ∀ c fr G, ¬ Q (.panic c) fr G) (hfin : ∀ fr G, dh5_J0 hs lb i H fr G → Q .normal fr G) : ∀ fr G, dh5_J20 hs lb i H fr G → AA Try.prog ops_dh5 Q 6 dh5_l20 fr G := by
  have hdl : (hs.drop (i + 1)).length = hs.length - (i + 1) := by simp
  have hsrc : Src H 2 (.slice (some ⟨lb, 0 + (i + 1) * 2, none⟩) (hs.length - (i + 1)) (hs.length - (i + 1) + 1)) (hs.length - (i + 1)) (fl hold (hs.drop (i + 1))) := srcn ((Sl.part (i := i + 1) (m := hs.drop (i + 1)) hold_len hkl rfl rfl (by omega) (List.take_of_length_le (by omega)) (by omega) : Sl H hold 2 (.slice (some ⟨lb, 0 + (i + 1) * 2, none⟩) (hs.length - (i + 1)) (hs.length - (i + 1) + 1)) _).src hold_len (by decide)) hdl
  have hone : (fl hold (hs.drop (i + 1))).all isOne = true := by rw [List.all_eq_true]; intro v hv; obtain ⟨z, _, h⟩ := List.mem_flatMap.mp hv; simp [hold] at h; rcases h with rfl | rfl <;> rfl
  rintro fr G ⟨get, rfl, hk0, hn, g0, g7, g21, g24⟩
  subst hk0
  refine aa_slot (d := 0) (v := .slice (some ⟨lb, 0, none⟩) hs.length (hs.length + 1)) g0 ?_
  refine aa_slot (d := 7) (v := .int .i64 hs.length) g7 ?_
  refine aa_slot (d := 21) (v := .int .i64 i) g21 ?_
  refine aa_slot (d := 24) (v := .int .i64 ((i + 1 : Nat) : Int)) g24 ?_
  refine aax2 (i := 0) (j := 3) (by kernel_rfl) ?_ ?_
  · exact aa_oL (listed' := dh5_l12) rfl rfl rfl rfl (by kernel_rfl) (ao_mv (v := .slice _ _ _) rfl) (dh5_st_12 hkl hi hnl hp hfin _ _ ⟨_, rfl, rfl, hn, rfl, rfl, rfl, rfl, rfl⟩)
  · exact aa_oL (listed' := dh5_l14) rfl rfl rfl rfl (by kernel_rfl) (ao_mv (v := .slice _ _ _) rfl) (dh5_st_14 hkl hi hnl hp hfin _ _ ⟨_, rfl, rfl, hn, rfl, rfl, rfl, rfl, rfl⟩)
set_option maxHeartbeats 4000000 in
theorem dh5_st_21 {hs : List Hold} {lb i : Nat} {H : AHeap} {Q : Exit → AFr → AHeap → Prop} (hkl : H.blk lb = some (.cells (fl hold hs) 2)) (hi : i < hs.length) (hnl : hs.length ≤ 4194304) (hp : ∀ c fr G, ¬ Q (.panic c) fr G) (hfin : ∀ fr G, dh5_J0 hs lb i H fr G → Q .normal fr G) : ∀ fr G, dh5_J21 hs lb i H fr G → AA Try.prog ops_dh5 Q 6 dh5_l21 fr G := by
  have hdl : (hs.drop (i + 1)).length = hs.length - (i + 1) := by simp
  have hsrc : Src H 2 (.slice (some ⟨lb, 0 + (i + 1) * 2, none⟩) (hs.length - (i + 1)) (hs.length - (i + 1) + 1)) (hs.length - (i + 1)) (fl hold (hs.drop (i + 1))) := srcn ((Sl.part (i := i + 1) (m := hs.drop (i + 1)) hold_len hkl rfl rfl (by omega) (List.take_of_length_le (by omega)) (by omega) : Sl H hold 2 (.slice (some ⟨lb, 0 + (i + 1) * 2, none⟩) (hs.length - (i + 1)) (hs.length - (i + 1) + 1)) _).src hold_len (by decide)) hdl
  have hone : (fl hold (hs.drop (i + 1))).all isOne = true := by rw [List.all_eq_true]; intro v hv; obtain ⟨z, _, h⟩ := List.mem_flatMap.mp hv; simp [hold] at h; rcases h with rfl | rfl <;> rfl
  rintro fr G ⟨get, rfl, hk0, hn, g0, g1, g7, g23, g24⟩
  subst hk0
  refine aa_slot (d := 0) (v := .slice (some ⟨lb, 0, none⟩) hs.length (hs.length + 1)) g0 ?_
  refine aa_slot (d := 1) (v := .int .i64 i) g1 ?_
  refine aa_slot (d := 7) (v := .int .i64 hs.length) g7 ?_
  refine aa_slot (d := 23) (v := .slice (some ⟨lb, 0, none⟩) hs.length (hs.length + 1)) g23 ?_
  refine aa_slot (d := 24) (v := .int .i64 ((i + 1 : Nat) : Int)) g24 ?_
  refine aax3 (i := 0) (j := 1) (l := 5) (by kernel_rfl) ?_ ?_ ?_
  · exact aa_oL (listed' := dh5_l13) rfl rfl rfl rfl (by kernel_rfl) (ao_mv (v := .slice _ _ _) rfl) (dh5_st_13 hkl hi hnl hp hfin _ _ ⟨_, rfl, rfl, hn, rfl, rfl, rfl, rfl, rfl, rfl⟩)
  · exact aa_oL (listed' := dh5_l14) rfl rfl rfl rfl (by kernel_rfl) (ao_mv (v := .int _ _) rfl) (dh5_st_14 hkl hi hnl hp hfin _ _ ⟨_, rfl, rfl, hn, rfl, rfl, rfl, rfl, rfl⟩)
  · exact aa_oL (listed' := dh5_l15) rfl rfl rfl rfl (by kernel_rfl) (ao_sliceLo Try.underlying36 Try.sizeOf54 (by rfl) (by rfl) (by first | rfl | omega) hkl (by rfl) (by omega)) (dh5_st_15 hkl hi hnl hp hfin _ _ ⟨_, rfl, rfl, hn, rfl, rfl, rfl, rfl⟩)
set_option maxHeartbeats 4000000 in
theorem dh5_st_22 {hs : List Hold} {lb i : Nat} {H : AHeap} {Q : Exit → AFr → AHeap → Prop} (hkl : H.blk lb = some (.cells (fl hold hs) 2)) (hi : i < hs.length) (hnl : hs.length ≤ 4194304) (hp : ∀ c fr G, ¬ Q (.panic c) fr G) (hfin : ∀ fr G, dh5_J0 hs lb i H fr G → Q .normal fr G) : ∀ fr G, dh5_J22 hs lb i H fr G → AA Try.prog ops_dh5 Q 7 dh5_l22 fr G := by
  have hdl : (hs.drop (i + 1)).length = hs.length - (i + 1) := by simp
  have hsrc : Src H 2 (.slice (some ⟨lb, 0 + (i + 1) * 2, none⟩) (hs.length - (i + 1)) (hs.length - (i + 1) + 1)) (hs.length - (i + 1)) (fl hold (hs.drop (i + 1))) := srcn ((Sl.part (i := i + 1) (m := hs.drop (i + 1)) hold_len hkl rfl rfl (by omega) (List.take_of_length_le (by omega)) (by omega) : Sl H hold 2 (.slice (some ⟨lb, 0 + (i + 1) * 2, none⟩) (hs.length - (i + 1)) (hs.length - (i + 1) + 1)) _).src hold_len (by decide)) hdl
  have hone : (fl hold (hs.drop (i + 1))).all isOne = true := by rw [List.all_eq_true]; intro v hv; obtain ⟨z, _, h⟩ := List.mem_flatMap.mp hv; simp [hold] at h; rcases h with rfl | rfl <;> rfl
  rintro fr G ⟨get, rfl, hk0, hn, g0, g1, g2, g7, g20⟩
  subst hk0
  refine aa_slot (d := 0) (v := .slice (some ⟨lb, 0, none⟩) hs.length (hs.length + 1)) g0 ?_
  refine aa_slot (d := 1) (v := .int .i64 i) g1 ?_
  refine aa_slot (d := 2) (v := .int .i64 ((i + 1 : Nat) : Int)) g2 ?_
  refine aa_slot (d := 7) (v := .int .i64 hs.length) g7 ?_
  refine aa_slot (d := 20) (v := .slice (some ⟨lb, 0, none⟩) hs.length (hs.length + 1)) g20 ?_
  refine aax3 (i := 1) (j := 3) (l := 4) (by kernel_rfl) ?_ ?_ ?_
  · exact aa_oL (listed' := dh5_l16) rfl rfl rfl rfl (by kernel_rfl) (ao_mv (v := .int _ _) rfl) (dh5_st_16 hkl hi hnl hp hfin _ _ ⟨_, rfl, rfl, hn, rfl, rfl, rfl, rfl, rfl⟩)
  · exact aa_oL (listed' := dh5_l17) rfl rfl rfl rfl (by kernel_rfl) (ao_mv (v := .slice _ _ _) rfl) (dh5_st_17 hkl hi hnl hp hfin _ _ ⟨_, rfl, rfl, hn, rfl, rfl, rfl, rfl, rfl, rfl⟩)
  · exact aa_oL (listed' := dh5_l18) rfl rfl rfl rfl (by kernel_rfl) (ao_mv (v := .int _ _) rfl) (dh5_st_18 hkl hi hnl hp hfin _ _ ⟨_, rfl, rfl, hn, rfl, rfl, rfl, rfl, rfl⟩)
set_option maxHeartbeats 4000000 in
theorem dh5_st_23 {hs : List Hold} {lb i : Nat} {H : AHeap} {Q : Exit → AFr → AHeap → Prop} (hkl : H.blk lb = some (.cells (fl hold hs) 2)) (hi : i < hs.length) (hnl : hs.length ≤ 4194304) (hp : ∀ c fr G, ¬ Q (.panic c) fr G) (hfin : ∀ fr G, dh5_J0 hs lb i H fr G → Q .normal fr G) : ∀ fr G, dh5_J23 hs lb i H fr G → AA Try.prog ops_dh5 Q 7 dh5_l23 fr G := by
  have hdl : (hs.drop (i + 1)).length = hs.length - (i + 1) := by simp
  have hsrc : Src H 2 (.slice (some ⟨lb, 0 + (i + 1) * 2, none⟩) (hs.length - (i + 1)) (hs.length - (i + 1) + 1)) (hs.length - (i + 1)) (fl hold (hs.drop (i + 1))) := srcn ((Sl.part (i := i + 1) (m := hs.drop (i + 1)) hold_len hkl rfl rfl (by omega) (List.take_of_length_le (by omega)) (by omega) : Sl H hold 2 (.slice (some ⟨lb, 0 + (i + 1) * 2, none⟩) (hs.length - (i + 1)) (hs.length - (i + 1) + 1)) _).src hold_len (by decide)) hdl
  have hone : (fl hold (hs.drop (i + 1))).all isOne = true := by rw [List.all_eq_true]; intro v hv; obtain ⟨z, _, h⟩ := List.mem_flatMap.mp hv; simp [hold] at h; rcases h with rfl | rfl <;> rfl
  rintro fr G ⟨get, rfl, hk0, hn, g0, g2, g7, g21⟩
  subst hk0
  refine aa_slot (d := 0) (v := .slice (some ⟨lb, 0, none⟩) hs.length (hs.length + 1)) g0 ?_
  refine aa_slot (d := 2) (v := .int .i64 ((i + 1 : Nat) : Int)) g2 ?_
  refine aa_slot (d := 7) (v := .int .i64 hs.length) g7 ?_
  refine aa_slot (d := 21) (v := .int .i64 i) g21 ?_
  refine aax3 (i := 0) (j := 3) (l := 4) (by kernel_rfl) ?_ ?_ ?_
  · exact aa_oL (listed' := dh5_l16) rfl rfl rfl rfl (by kernel_rfl) (ao_mv (v := .slice _ _ _) rfl) (dh5_st_16 hkl hi hnl hp hfin _ _ ⟨_, rfl, rfl, hn, rfl, rfl, rfl, rfl, rfl⟩)
  · exact aa_oL (listed' := dh5_l19) rfl rfl rfl rfl (by kernel_rfl) (ao_mv (v := .slice _ _ _) rfl) (dh5_st_19 hkl hi hnl hp hfin _ _ ⟨_, rfl, rfl, hn, rfl, rfl, rfl, rfl, rfl⟩)
  · exact aa_oL (listed' := dh5_l20) rfl rfl rfl rfl (by kernel_rfl) (ao_mv (v := .int _ _) rfl) (dh5_st_20 hkl hi hnl hp hfin _ _ ⟨_, rfl, rfl, hn, rfl, rfl, rfl, rfl⟩)
set_option maxHeartbeats 4000000 in
theorem dh5_st_24 {hs : List Hold} {lb i : Nat} {H : AHeap} {Q : Exit → AFr → AHeap → Prop} (hkl : H.blk lb = some (.cells (fl hold hs) 2)) (hi : i < hs.length) (hnl : hs.length ≤ 4194304) (hp : ∀ c fr G, ¬ Q (.panic c) fr G) (hfin : ∀ fr G, dh5_J0 hs lb i H fr G → Q .normal fr G) : ∀ fr G, dh5_J24 hs lb i H fr G → AA Try.prog ops_dh5 Q 7 dh5_l24 fr G := by
  have hdl : (hs.drop (i + 1)).length = hs.length - (i + 1) := by simp
  have hsrc : Src H 2 (.slice (some ⟨lb, 0 + (i + 1) * 2, none⟩) (hs.length - (i + 1)) (hs.length - (i + 1) + 1)) (hs.length - (i + 1)) (fl hold (hs.drop (i + 1))) := srcn ((Sl.part (i := i + 1) (m := hs.drop (i + 1)) hold_len hkl rfl rfl (by omega) (List.take_of_length_le (by omega)) (by omega) : Sl H hold 2 (.slice (some ⟨lb, 0 + (i + 1) * 2, none⟩) (hs.length - (i + 1)) (hs.length - (i + 1) + 1)) _).src hold_len (by decide)) hdl
  have hone : (fl hold (hs.drop (i + 1))).all isOne = true := by rw [List.all_eq_true]; intro v hv; obtain ⟨z, _, h⟩ := List.mem_flatMap.mp hv; simp [hold] at h; rcases h with rfl | rfl <;> rfl
  rintro fr G ⟨get, rfl, hk0, hn, g0, g1, g2, g7, g23⟩
  subst hk0
  refine aa_slot (d := 0) (v := .slice (some ⟨lb, 0, none⟩) hs.length (hs.length + 1)) g0 ?_
  refine aa_slot (d := 1) (v := .int .i64 i) g1 ?_
  refine aa_slot (d := 2) (v := .int .i64 ((i + 1 : Nat) : Int)) g2 ?_
  refine aa_slot (d := 7) (v := .int .i64 hs.length) g7 ?_
  refine aa_slot (d := 23) (v := .slice (some ⟨lb, 0, none⟩) hs.length (hs.length + 1)) g23 ?_
  refine aax3 (i := 0) (j := 1) (l := 4) (by kernel_rfl) ?_ ?_ ?_
  · exact aa_oL (listed' := dh5_l17) rfl rfl rfl rfl (by kernel_rfl) (ao_mv (v := .slice _ _ _) rfl) (dh5_st_17 hkl hi hnl hp hfin _ _ ⟨_, rfl, rfl, hn, rfl, rfl, rfl, rfl, rfl, rfl⟩)
  · exact aa_oL (listed' := dh5_l19) rfl rfl rfl rfl (by kernel_rfl) (ao_mv (v := .int _ _) rfl) (dh5_st_19 hkl hi hnl hp hfin _ _ ⟨_, rfl, rfl, hn, rfl, rfl, rfl, rfl, rfl⟩)
  · exact aa_oL (listed' := dh5_l21) rfl rfl rfl rfl (by kernel_rfl) (ao_mv (v := .int _ _) rfl) (dh5_st_21 hkl hi hnl hp hfin _ _ ⟨_, rfl, rfl, hn, rfl, rfl, rfl, rfl, rfl⟩)
set_option maxHeartbeats 4000000 in
theorem dh5_st_25 {hs : List Hold} {lb i : Nat} {H : AHeap} {Q : Exit → AFr → AHeap → Prop} (hkl : H.blk lb = some (.cells (fl hold hs) 2)) (hi : i < hs.length) (hnl : hs.length ≤ 4194304) (hp : ∀ c fr G, ¬ Q (.panic c) fr G) (hfin : ∀ fr G, dh5_J0 hs lb i H fr G → Q .normal fr G) : ∀ fr G, dh5_J25 hs lb i H fr G → AA Try.prog ops_dh5 Q 7 dh5_l25 fr G := by
  have hdl : (hs.drop (i + 1)).length = hs.length - (i + 1) := by simp
  have hsrc : Src H 2 (.slice (some ⟨lb, 0 + (i + 1) * 2, none⟩) (hs.length - (i + 1)) (hs.length - (i + 1) + 1)) (hs.length - (i + 1)) (fl hold (hs.drop (i + 1))) := srcn ((Sl.part (i := i + 1) (m := hs.drop (i + 1)) hold_len hkl rfl rfl (by omega) (List.take_of_length_le (by omega)) (by omega) : Sl H hold 2 (.slice (some ⟨lb, 0 + (i + 1) * 2, none⟩) (hs.length - (i + 1)) (hs.length - (i + 1) + 1)) _).src hold_len (by decide)) hdl
  have hone : (fl hold (hs.drop (i + 1))).all isOne = true := by rw [List.all_eq_true]; intro v hv; obtain ⟨z, _, h⟩ := List.mem_flatMap.mp hv; simp [hold] at h; rcases h with rfl | rfl <;> rfl
  rintro fr G ⟨get, rfl, hk0, hn, g0, g1, g7, g24⟩
  subst hk0
  refine aa_slot (d := 0) (v := .slice (some ⟨lb, 0, none⟩) hs.length (hs.length + 1)) g0 ?_
  refine aa_slot (d := 1) (v := .int .i64 i) g1 ?_
  refine aa_slot (d := 7) (v := .int .i64 hs.length) g7 ?_
  refine aa_slot (d := 24) (v := .int .i64 ((i + 1 : Nat) : Int)) g24 ?_
  refine aax3 (i := 0) (j := 1) (l := 3) (by kernel_rfl) ?_ ?_ ?_
  · exact aa_oL (listed' := dh5_l18) rfl rfl rfl rfl (by kernel_rfl) (ao_mv (v := .slice _ _ _) rfl) (dh5_st_18 hkl hi hnl hp hfin _ _ ⟨_, rfl, rfl, hn, rfl, rfl, rfl, rfl, rfl⟩)
  · exact aa_oL (listed' := dh5_l20) rfl rfl rfl rfl (by kernel_rfl) (ao_mv (v := .int _ _) rfl) (dh5_st_20 hkl hi hnl hp hfin _ _ ⟨_, rfl, rfl, hn, rfl, rfl, rfl, rfl⟩)
  · exact aa_oL (listed' := dh5_l21) rfl rfl rfl rfl (by kernel_rfl) (ao_mv (v := .slice _ _ _) rfl) (dh5_st_21 hkl hi hnl hp hfin _ _ ⟨_, rfl, rfl, hn, rfl, rfl, rfl, rfl, rfl⟩)
set_option maxHeartbeats 4000000 in
theorem dh5_st_26 {hs : List Hold} {lb i : Nat} {H : AHeap} {Q : Exit → AFr → AHeap → Prop} (hkl : H.blk lb = some (.cells (fl hold hs) 2)) (hi : i < hs.length) (hnl : hs.length ≤ 4194304) (hp : ∀ c fr G, ¬ Q (.panic c) fr G) (hfin : ∀ fr G, dh5_J0 hs lb i H fr G → Q .normal fr G) : ∀ fr G, dh5_J26 hs lb i H fr G → AA Try.prog ops_dh5 Q 8 dh5_l26 fr G := by
  have hdl : (hs.drop (i + 1)).length = hs.length - (i + 1) := by simp
  have hsrc : Src H 2 (.slice (some ⟨lb, 0 + (i + 1) * 2, none⟩) (hs.length - (i + 1)) (hs.length - (i + 1) + 1)) (hs.length - (i + 1)) (fl hold (hs.drop (i + 1))) := srcn ((Sl.part (i := i + 1) (m := hs.drop (i + 1)) hold_len hkl rfl rfl (by omega) (List.take_of_length_le (by omega)) (by omega) : Sl H hold 2 (.slice (some ⟨lb, 0 + (i + 1) * 2, none⟩) (hs.length - (i + 1)) (hs.length - (i + 1) + 1)) _).src hold_len (by decide)) hdl
  have hone : (fl hold (hs.drop (i + 1))).all isOne = true := by rw [List.all_eq_true]; intro v hv; obtain ⟨z, _, h⟩ := List.mem_flatMap.mp hv; simp [hold] at h; rcases h with rfl | rfl <;> rfl
  rintro fr G ⟨get, rfl, hk0, hn, g0, g1, g2, g7⟩
  subst hk0
  refine aa_slot (d := 0) (v := .slice (some ⟨lb, 0, none⟩) hs.length (hs.length + 1)) g0 ?_
  refine aa_slot (d := 1) (v := .int .i64 i) g1 ?_
  refine aa_slot (d := 2) (v := .int .i64 ((i + 1 : Nat) : Int)) g2 ?_
  refine aa_slot (d := 7) (v := .int .i64 hs.length) g7 ?_
  refine aax4 (i := 0) (j := 1) (l := 3) (o := 4) (by kernel_rfl) ?_ ?_ ?_ ?_
  · exact aa_oL (listed' := dh5_l22) rfl rfl rfl rfl (by kernel_rfl) (ao_mv (v := .slice _ _ _) rfl) (dh5_st_22 hkl hi hnl hp hfin _ _ ⟨_, rfl, rfl, hn, rfl, rfl, rfl, rfl, rfl⟩)
  · exact aa_oL (listed' := dh5_l23) rfl rfl rfl rfl (by kernel_rfl) (ao_mv (v := .int _ _) rfl) (dh5_st_23 hkl hi hnl hp hfin _ _ ⟨_, rfl, rfl, hn, rfl, rfl, rfl, rfl⟩)
  · exact aa_oL (listed' := dh5_l24) rfl rfl rfl rfl (by kernel_rfl) (ao_mv (v := .slice _ _ _) rfl) (dh5_st_24 hkl hi hnl hp hfin _ _ ⟨_, rfl, rfl, hn, rfl, rfl, rfl, rfl, rfl⟩)
  · exact aa_oL (listed' := dh5_l25) rfl rfl rfl rfl (by kernel_rfl) (ao_mv (v := .int _ _) rfl) (dh5_st_25 hkl hi hnl hp hfin _ _ ⟨_, rfl, rfl, hn, rfl, rfl, rfl, rfl⟩)
set_option maxHeartbeats 4000000 in
theorem dh5_c {hs : List Hold} {lb i : Nat} {H : AHeap} {Q : Exit → AFr → AHeap → Prop} (hkl : H.blk lb = some (.cells (fl hold hs) 2)) (hi : i < hs.length) (hnl : hs.length ≤ 4194304) (hp : ∀ c fr G, ¬ Q (.panic c) fr G) (hfin : ∀ fr G, dh5_J0 hs lb i H fr G → Q .normal fr G) : ∀ fr G, dh5_J26 hs lb i H fr G → AA Try.prog ops_dh5 Q (ops_dh5).size (Array.replicate (ops_dh5).size false) fr G := by
  have hdl : (hs.drop (i + 1)).length = hs.length - (i + 1) := by simp
  have hsrc : Src H 2 (.slice (some ⟨lb, 0 + (i + 1) * 2, none⟩) (hs.length - (i + 1)) (hs.length - (i + 1) + 1)) (hs.length - (i + 1)) (fl hold (hs.drop (i + 1))) := srcn ((Sl.part (i := i + 1) (m := hs.drop (i + 1)) hold_len hkl rfl rfl (by omega) (List.take_of_length_le (by omega)) (by omega) : Sl H hold 2 (.slice (some ⟨lb, 0 + (i + 1) * 2, none⟩) (hs.length - (i + 1)) (hs.length - (i + 1) + 1)) _).src hold_len (by decide)) hdl
  have hone : (fl hold (hs.drop (i + 1))).all isOne = true := by rw [List.all_eq_true]; intro v hv; obtain ⟨z, _, h⟩ := List.mem_flatMap.mp hv; simp [hold] at h; rcases h with rfl | rfl <;> rfl
  rintro fr G ⟨get, rfl, hk0, hn, g0, g1, g2, g7⟩
  subst hk0
  refine aa_slot (d := 0) (v := .slice (some ⟨lb, 0, none⟩) hs.length (hs.length + 1)) g0 ?_
  refine aa_slot (d := 1) (v := .int .i64 i) g1 ?_
  refine aa_slot (d := 2) (v := .int .i64 ((i + 1 : Nat) : Int)) g2 ?_
  refine aa_slot (d := 7) (v := .int .i64 hs.length) g7 ?_
  exact dh5_st_26 hkl hi hnl hp hfin _ _ ⟨_, rfl, rfl, hn, rfl, rfl, rfl, rfl⟩
-- slices.Delete[[]impl.Hold,impl.Hold]
theorem delHold_c {hs : List Hold} {lb i : Nat} {H : AHeap} (hkl : H.blk lb = some (.cells (fl hold hs) 2)) (hi : i < hs.length) (hnl : hs.length ≤ 4194304) : ACd Try.prog 39 [.slice (some ⟨lb, 0, none⟩) hs.length (hs.length + 1), .int .i64 i, .int .i64 ((i + 1 : Nat) : Int)] H (.slice (some ⟨lb, 0, none⟩) (hs.length - 1) (hs.length + 1)) (H.set lb (.cells (fl hold (letL hs i ++ [⟨0, 0⟩])) 2)) := by
  have hlt0 := AHeap.lt hkl
  have hzl : (letL hs i ++ hs.drop (hs.length - 1)).length = hs.length := by rw [List.length_append, letL_len hi, List.length_drop]; omega
  refine ac_gc1s (fun ρ h => vr_sl h (by omega) (fun e => by omega)) (vrl_fl hold_plain _) ⟨_, hkl⟩ (ac_body Try.func39 rfl Try.ntmps39 rfl ?_)
  refine aw_seq ?_
  refine aw_region ?_
  refine al_opd rfl rfl rfl (ao_as (v := .slice _ _ _) rfl) ?_
  refine al_nilT ?_
  refine aw_seq ?_
  refine aw_region ?_
  refine al_opd rfl rfl rfl (ao_mv (v := .slice _ _ _) rfl) ?_
  refine al_opd rfl rfl rfl (ao_mv (v := .int _ _) rfl) ?_
  refine al_opd rfl rfl rfl (ao_mv (v := .int _ _) rfl) ?_
  refine al_opd rfl rfl rfl (ao_mv (v := .slice _ _ _) rfl) ?_
  first | refine al_opd rfl rfl rfl (ao_lenS Try.underlying36 (by rfl)) ?_ | refine al_opd rfl rfl rfl (ao_lenN Try.underlying36 (by rfl)) ?_
  refine al_opd rfl rfl rfl (ao_slice3 Try.underlying36 Try.sizeOf54 (by rfl) (by rfl) (by rfl) (by rfl) (by first | rfl | omega) (by first | rfl | omega) (by first | rfl | omega) hkl (by omega) (by omega) (by omega) (by omega)) ?_
  refine al_nilT ?_
  refine aw_seq ?_
  refine aw_seq ?_
  refine aw_region ?_
  refine al_opd rfl rfl rfl (ao_mv (v := .int _ _) rfl) ?_
  refine al_opd rfl rfl rfl (ao_mv (v := .int _ _) rfl) ?_
  refine al_opd rfl rfl rfl (ao_eql rfl rfl) ?_
  refine al_nilT ?_
  refine aw_cond rfl (fun h1_ => ?_) (fun h1_ => ?_)
  · try simp only [nrm] at h1_
    first | done | omega | (exfalso; revert h1_; simp; (first | done | omega))
  try simp only [nrm] at h1_
  refine aw_skipT ?_
  refine aw_seq ?_
  refine aw_region ?_
  refine al_opd rfl rfl rfl (ao_mv (v := .slice _ _ _) rfl) ?_
  first | refine al_opd rfl rfl rfl (ao_lenS Try.underlying36 (by rfl)) ?_ | refine al_opd rfl rfl rfl (ao_lenN Try.underlying36 (by rfl)) ?_
  refine al_opd rfl rfl rfl (ao_as (v := .int _ _) rfl) ?_
  refine al_nilT ?_
  refine aw_seq ?_
  refine aw_cut (dh5_J0 hs lb i H) ?_ ?_
  · exact aa_region mo (dh5_c hkl hi hnl (fun _ _ _ h => h) (fun fr G h => thenA_n h) _ _ ⟨_, rfl, rfl, by exact LEp, rfl, rfl, rfl, rfl⟩)
  · rintro fr G ⟨get, rfl, hk0, hn, g7, g0⟩
    subst hk0
    refine aw_slot (d := 7) (v := .int .i64 hs.length) g7 ?_
    refine aw_slot (d := 0) (v := .slice (some ⟨lb, 0, none⟩) (hs.length - 1) (hs.length + 1)) g0 ?_
    refine aw_seq ?_
    refine aw_region ?_
    refine al_opd rfl rfl rfl (ao_mv (v := .slice _ _ _) rfl) ?_
    refine al_opd rfl rfl rfl (ao_mv (v := .slice _ _ _) rfl) ?_
    first | refine al_opd rfl rfl rfl (ao_lenS Try.underlying36 (by rfl)) ?_ | refine al_opd rfl rfl rfl (ao_lenN Try.underlying36 (by rfl)) ?_
    refine al_opd rfl rfl rfl (ao_mv (v := .int _ _) rfl) ?_
    refine al_opd rfl rfl rfl (ao_sliceOver Try.underlying36 Try.sizeOf54 (by rfl) (by rfl) (by rfl) (by first | rfl | omega) (by first | rfl | omega) (by exact HLp) (by omega) (by omega) (by omega)) ?_
    refine al_opd rfl rfl rfl ((ao_clear (el := hold) (z0 := (⟨0, 0⟩ : Hold)) (size := 2) Try.underlying36 Try.zeroValue54 (by rfl) (by rfl) (by rfl) (by rfl) (by rfl) (by exact HLp) (by (rw [fl_len hold_len, hzl]; omega))).to (SetR.eq (by exact SRp))) ?_
    refine al_nilT ?_
    refine aw_seq ?_
    refine aw_region ?_
    refine al_opd rfl rfl rfl (ao_mv (v := .slice _ _ _) rfl) ?_
    refine al_opd rfl rfl rfl (ao_as (v := .slice _ _ _) rfl) ?_
    refine al_nilT ?_
    refine aw_ret ?_
    refine ends1 rfl (rv_tmp (v := .slice _ _ _) rfl) ?_
    exact ⟨rfl, by rw [letL_clear hold_len hi]; exact Same.refl _ _⟩

-- impl.without
theorem withoutH_c {hs : List Hold} {lb i c : Nat} {H : AHeap} (hk0 : H.blk lb = some (.cells (fl hold hs) 2)) (hi : i < hs.length) (hnl : hs.length ≤ 4194304) : ACd Try.prog 34 [.slice (some ⟨lb, 0, none⟩) hs.length c, .int .i64 i] H (.slice (some ⟨H.next, 0, none⟩) (letL hs i).length ((letL hs i).length + 1)) (H.push (.cells (fl hold (letL hs i)) 2)) := by
  have hh0 : Sl H hold 2 (.slice (some ⟨lb, 0, none⟩) hs.length c) hs := Sl.full hold_len hk0 rfl rfl rfl
  have hlt0 := AHeap.lt hk0
  refine ac_gcsP (vrl_fl hold_plain _) (ac_body Try.func34 rfl Try.ntmps34 rfl ?_)
  refine aw_seq ?_
  refine aw_region ?_
  refine al_opd rfl rfl rfl (ao_as (v := .slice _ _ _) rfl) ?_
  refine al_nilT ?_
  refine aw_seq ?_
  refine aw_region ?_
  refine al_opd rfl rfl rfl (ao_mv (v := .slice _ _ _) rfl) ?_
  refine al_opd rfl rfl rfl (ao_calld (cloneHold_c (l := hs) (hh0.mono (by exact SMp)) hnl) Try.call40 rfl rfl) ?_
  refine al_opd rfl rfl rfl (ao_mv (v := .int _ _) rfl) ?_
  refine al_opd rfl rfl rfl (ao_mv (v := .int _ _) rfl) ?_
  refine al_opd rfl rfl rfl ((ao_add rfl rfl).val (v' := .int .i64 ((i + 1 : Nat) : Int)) (nw_i64 (by omega) (by omega))) ?_
  refine al_opd rfl rfl rfl ((ao_calld (delHold_c (hs := hs) (lb := H.next) (i := i) (by exact HLp) hi hnl) Try.call39 rfl rfl).to (SetR.eq (by exact SRp))) ?_
  refine al_opd rfl rfl rfl (ao_as (v := .slice _ _ _) rfl) ?_
  refine al_nilT ?_
  refine aw_ret ?_
  refine ends1 rfl (rv_tmp (v := .slice _ _ _) rfl) ?_
  exact ⟨by exact SMp, H.next, fl hold [⟨0, 0⟩], Nat.le_refl _, (blk_push_new _ _).trans (by rw [fl_app]), fun ρ h => by rw [letL_len hi]; exact vr_sl h (by omega) (by omega)⟩

-- impl.LetGo
theorem implLet1_c {L : Int} {v : Value} {ks : List Int} {hs : List Hold} {lb c : Nat} {i : Nat} {H : AHeap} (ha0 : Sl H i16 1 v ks) (hk0 : H.blk lb = some (.cells (fl hold hs) 2)) (hcc : hs.length ≤ c) (hlen : ks.length ≤ 4194304) (hn : hs.length ≤ 4194304) (hL : -32768 ≤ L ∧ L ≤ 32767) (hw : holdOk hs) (hv : okRope L ks ∧ okHolds ks.length hs) (hi : i < hs.length) : ACd Try.prog 15 [.agg #[.int .i16 L, v], .slice (some ⟨lb, 0, none⟩) hs.length c, .int .i64 i] H (.tuple #[.slice (some ⟨H.next, 0, none⟩) (letL hs i).length ((letL hs i).length + 1), .int .i64 0]) (H.push (.cells (fl hold (letL hs i)) 2)) := by
  have hh0 : Sl H hold 2 (.slice (some ⟨lb, 0, none⟩) hs.length c) hs := Sl.full hold_len hk0 rfl rfl rfl
  have hlt0 := AHeap.lt hk0
  refine ac_gcs (vrl_fl hold_plain _) (ac_body Try.func15 rfl Try.ntmps15 rfl ?_)
  refine aw_seq ?_
  refine aw_region ?_
  refine al_opd rfl rfl rfl (ao_boxa (by rfl)) ?_
  first | refine al_opd rfl rfl rfl (ao_as (v := .slice _ _ _) rfl) ?_ | refine al_opd rfl rfl rfl (ao_as (v := v) rfl) ?_
  refine al_opd rfl rfl rfl (ao_as (v := .int _ _) rfl) ?_
  refine al_nilT ?_
  refine aw_seq ?_
  refine aw_block ?_
  refine aw_seq ?_
  refine aw_region ?_
  refine al_opd rfl rfl rfl (ao_loada Try.isAgg27 Try.sizeOf27 rfl (by exact HLp) (by rfl) (by exact RFp)) ?_
  first | refine al_opd rfl rfl rfl (ao_mv (v := .slice _ _ _) rfl) ?_ | refine al_opd rfl rfl rfl (ao_mv (v := v) rfl) ?_
  refine al_opd rfl rfl rfl (ao_calld (implValidHolds_c (L := L) (v := v) (ks := ks) (hs := hs) (b := true) (ha0.mono (by exact SMp)) (by exact HLp) hlen hn hL hw (yes hv)) Try.call32 rfl rfl) ?_
  refine al_opd rfl rfl rfl (ao_not rfl) ?_
  refine al_opd rfl rfl rfl (ao_as (v := .bool _) rfl) ?_
  refine al_nilT ?_
  refine aw_cond rfl (fun h1_ => ?_) (fun h1_ => ?_)
  · try simp only [nrm] at h1_
    first | done | omega | (exfalso; revert h1_; simp; (first | done | omega))
  try simp only [nrm] at h1_
  refine aw_seq ?_
  refine aw_region ?_
  refine al_opd rfl rfl rfl (ao_mv (v := .int _ _) rfl) ?_
  first | refine al_opd rfl rfl rfl (ao_mv (v := .slice _ _ _) rfl) ?_ | refine al_opd rfl rfl rfl (ao_mv (v := v) rfl) ?_
  refine al_opd rfl rfl rfl (ao_calld (sizeHold_c (v := .slice (some ⟨lb, 0, none⟩) hs.length c) (l := hs) (hh0.mono (by exact SMp))) Try.call33 rfl rfl) ?_
  first | refine al_opd rfl rfl rfl ((ao_sub rfl rfl).val (nw_i64 BDp BDp)) ?_ | refine al_opd rfl rfl rfl (ao_sub rfl rfl) ?_
  refine al_opd rfl rfl rfl (ao_calld (within_c) Try.call25 rfl rfl) ?_
  refine al_opd rfl rfl rfl (ao_not rfl) ?_
  refine al_opd rfl rfl rfl (ao_as (v := .bool _) rfl) ?_
  refine al_nilT ?_
  refine aw_cond rfl (fun h2_ => ?_) (fun h2_ => ?_)
  · try simp only [nrm] at h2_
    first | done | omega | (exfalso; revert h2_; simp; (first | done | omega))
  try simp only [nrm] at h2_
  refine aw_skipB ?_
  refine thenA_n ?_
  refine aw_seq ?_
  refine aw_region ?_
  first | refine al_opd rfl rfl rfl (ao_mv (v := .slice _ _ _) rfl) ?_ | refine al_opd rfl rfl rfl (ao_mv (v := v) rfl) ?_
  refine al_opd rfl rfl rfl (ao_mv (v := .int _ _) rfl) ?_
  refine al_opd rfl rfl rfl (ao_calld (withoutH_c (hs := hs) (lb := lb) (i := i) (c := c) (by exact HLp) hi hn) Try.call34 rfl rfl) ?_
  first | refine al_opd rfl rfl rfl (ao_as (v := .slice _ _ _) rfl) ?_ | refine al_opd rfl rfl rfl (ao_as (v := v) rfl) ?_
  refine al_opd rfl rfl rfl (ao_as (v := .int _ _) rfl) ?_
  refine al_nilT ?_
  refine aw_ret ?_
  refine ends2 rfl (rv_tmp (v := .slice _ _ _) rfl) (rv_tmp (v := .int _ _) rfl) ?_
  exact ⟨by exact SMp, _, by exact LEp, by exact HLp, fun ρ h => vr_tup2 (vr_sl h (by omega) (by omega)) (.int _ _)⟩

-- impl.LetGo
theorem implLet0_c {L m : Int} {v : Value} {ks : List Int} {hs : List Hold} {lb c : Nat} {H : AHeap} (ha0 : Sl H i16 1 v ks) (hk0 : H.blk lb = some (.cells (fl hold hs) 2)) (hcc : hs.length ≤ c) (hlen : ks.length ≤ 4194304) (hn : hs.length ≤ 4194304) (hL : -32768 ≤ L ∧ L ≤ 32767) (hw : holdOk hs) (hv : ¬ (okRope L ks ∧ okHolds ks.length hs)) : ACd Try.prog 15 [.agg #[.int .i16 L, v], .slice (some ⟨lb, 0, none⟩) hs.length c, .int .i64 m] H (.tuple #[.slice none 0 0, .int .i64 1]) (H) := by
  have hh0 : Sl H hold 2 (.slice (some ⟨lb, 0, none⟩) hs.length c) hs := Sl.full hold_len hk0 rfl rfl rfl
  have hlt0 := AHeap.lt hk0
  refine ac_gc0 (fun β => VR.plainT β (by first | rfl | simp [plainT, plainV, plain1])) (ac_body Try.func15 rfl Try.ntmps15 rfl ?_)
  refine aw_seq ?_
  refine aw_region ?_
  refine al_opd rfl rfl rfl (ao_boxa (by rfl)) ?_
  first | refine al_opd rfl rfl rfl (ao_as (v := .slice _ _ _) rfl) ?_ | refine al_opd rfl rfl rfl (ao_as (v := v) rfl) ?_
  refine al_opd rfl rfl rfl (ao_as (v := .int _ _) rfl) ?_
  refine al_nilT ?_
  refine aw_seq ?_
  refine aw_block ?_
  refine aw_seq ?_
  refine aw_region ?_
  refine al_opd rfl rfl rfl (ao_loada Try.isAgg27 Try.sizeOf27 rfl (by exact HLp) (by rfl) (by exact RFp)) ?_
  first | refine al_opd rfl rfl rfl (ao_mv (v := .slice _ _ _) rfl) ?_ | refine al_opd rfl rfl rfl (ao_mv (v := v) rfl) ?_
  refine al_opd rfl rfl rfl (ao_calld (implValidHolds_c (L := L) (v := v) (ks := ks) (hs := hs) (b := false) (ha0.mono (by exact SMp)) (by exact HLp) hlen hn hL hw (no hv)) Try.call32 rfl rfl) ?_
  refine al_opd rfl rfl rfl (ao_not rfl) ?_
  refine al_opd rfl rfl rfl (ao_as (v := .bool _) rfl) ?_
  refine al_nilT ?_
  refine aw_cond rfl (fun h1_ => ?_) (fun h1_ => ?_)
  rotate_left
  · try simp only [nrm] at h1_
    first | done | omega | (exfalso; revert h1_; simp; (first | done | omega))
  try simp only [nrm] at h1_
  refine aw_seq ?_
  refine aw_region ?_
  first | refine al_opd rfl rfl rfl (ao_as (v := .slice _ _ _) rfl) ?_ | refine al_opd rfl rfl rfl (ao_as (v := v) rfl) ?_
  refine al_opd rfl rfl rfl (ao_as (v := .int _ _) rfl) ?_
  refine al_nilT ?_
  refine aw_ret ?_
  refine blockA_r ?_
  refine thenA_r ?_
  refine ends2 rfl (rv_tmp (v := .slice _ _ _) rfl) (rv_tmp (v := .int _ _) rfl) ?_
  exact ⟨by first | rfl | (simp [*]; (first | done | fail)), by exact SMp⟩

-- impl.LetGo
theorem implLet2_c {L m : Int} {v : Value} {ks : List Int} {hs : List Hold} {lb c : Nat} {H : AHeap} (ha0 : Sl H i16 1 v ks) (hk0 : H.blk lb = some (.cells (fl hold hs) 2)) (hcc : hs.length ≤ c) (hlen : ks.length ≤ 4194304) (hn : hs.length ≤ 4194304) (hL : -32768 ≤ L ∧ L ≤ 32767) (hw : holdOk hs) (hv : okRope L ks ∧ okHolds ks.length hs) (hm : ¬ (0 ≤ m ∧ m ≤ (hs.length : Int) - 1)) : ACd Try.prog 15 [.agg #[.int .i16 L, v], .slice (some ⟨lb, 0, none⟩) hs.length c, .int .i64 m] H (.tuple #[.slice none 0 0, .int .i64 2]) (H) := by
  have hh0 : Sl H hold 2 (.slice (some ⟨lb, 0, none⟩) hs.length c) hs := Sl.full hold_len hk0 rfl rfl rfl
  have hlt0 := AHeap.lt hk0
  refine ac_gc0 (fun β => VR.plainT β (by first | rfl | simp [plainT, plainV, plain1])) (ac_body Try.func15 rfl Try.ntmps15 rfl ?_)
  refine aw_seq ?_
  refine aw_region ?_
  refine al_opd rfl rfl rfl (ao_boxa (by rfl)) ?_
  first | refine al_opd rfl rfl rfl (ao_as (v := .slice _ _ _) rfl) ?_ | refine al_opd rfl rfl rfl (ao_as (v := v) rfl) ?_
  refine al_opd rfl rfl rfl (ao_as (v := .int _ _) rfl) ?_
  refine al_nilT ?_
  refine aw_seq ?_
  refine aw_block ?_
  refine aw_seq ?_
  refine aw_region ?_
  refine al_opd rfl rfl rfl (ao_loada Try.isAgg27 Try.sizeOf27 rfl (by exact HLp) (by rfl) (by exact RFp)) ?_
  first | refine al_opd rfl rfl rfl (ao_mv (v := .slice _ _ _) rfl) ?_ | refine al_opd rfl rfl rfl (ao_mv (v := v) rfl) ?_
  refine al_opd rfl rfl rfl (ao_calld (implValidHolds_c (L := L) (v := v) (ks := ks) (hs := hs) (b := true) (ha0.mono (by exact SMp)) (by exact HLp) hlen hn hL hw (yes hv)) Try.call32 rfl rfl) ?_
  refine al_opd rfl rfl rfl (ao_not rfl) ?_
  refine al_opd rfl rfl rfl (ao_as (v := .bool _) rfl) ?_
  refine al_nilT ?_
  refine aw_cond rfl (fun h1_ => ?_) (fun h1_ => ?_)
  · try simp only [nrm] at h1_
    first | done | omega | (exfalso; revert h1_; simp; (first | done | omega))
  try simp only [nrm] at h1_
  refine aw_seq ?_
  refine aw_region ?_
  refine al_opd rfl rfl rfl (ao_mv (v := .int _ _) rfl) ?_
  first | refine al_opd rfl rfl rfl (ao_mv (v := .slice _ _ _) rfl) ?_ | refine al_opd rfl rfl rfl (ao_mv (v := v) rfl) ?_
  refine al_opd rfl rfl rfl (ao_calld (sizeHold_c (v := .slice (some ⟨lb, 0, none⟩) hs.length c) (l := hs) (hh0.mono (by exact SMp))) Try.call33 rfl rfl) ?_
  first | refine al_opd rfl rfl rfl ((ao_sub rfl rfl).val (nw_i64 BDp BDp)) ?_ | refine al_opd rfl rfl rfl (ao_sub rfl rfl) ?_
  refine al_opd rfl rfl rfl (ao_calld (within_c) Try.call25 rfl rfl) ?_
  refine al_opd rfl rfl rfl (ao_not rfl) ?_
  refine al_opd rfl rfl rfl (ao_as (v := .bool _) rfl) ?_
  refine al_nilT ?_
  refine aw_cond rfl (fun h2_ => ?_) (fun h2_ => ?_)
  rotate_left
  · try simp only [nrm] at h2_
    first | done | omega | (exfalso; revert h2_; simp; (first | done | omega))
  try simp only [nrm] at h2_
  refine aw_seq ?_
  refine aw_region ?_
  first | refine al_opd rfl rfl rfl (ao_as (v := .slice _ _ _) rfl) ?_ | refine al_opd rfl rfl rfl (ao_as (v := v) rfl) ?_
  refine al_opd rfl rfl rfl (ao_as (v := .int _ _) rfl) ?_
  refine al_nilT ?_
  refine aw_ret ?_
  refine blockA_r ?_
  refine thenA_r ?_
  refine ends2 rfl (rv_tmp (v := .slice _ _ _) rfl) (rv_tmp (v := .int _ _) rfl) ?_
  exact ⟨by first | rfl | (simp [*]; (first | done | fail)), by exact SMp⟩

-- spec.LetGo
theorem specLet0_c {L m : Int} {v : Value} {ks : List Int} {hs : List Hold} {lb c : Nat} {H : AHeap} (ha0 : Sl H i16 1 v ks) (hk0 : H.blk lb = some (.cells (fl hold hs) 2)) (hcc : hs.length ≤ c) (hlen : ks.length ≤ 4194304) (hn : hs.length ≤ 4194304) (hL : -32768 ≤ L ∧ L ≤ 32767) (hw : holdOk hs) (hv : ¬ (okRope L ks ∧ okHolds ks.length hs)) : ACd Try.prog 13 [.agg #[.int .i16 L, v], .slice (some ⟨lb, 0, none⟩) hs.length c, .int .i64 m] H (.tuple #[.slice (some ⟨H.next, 0, none⟩) 0 0, .int .i64 1]) (H.push (.cells (fl hold []) 2)) := by
  have hh0 : Sl H hold 2 (.slice (some ⟨lb, 0, none⟩) hs.length c) hs := Sl.full hold_len hk0 rfl rfl rfl
  have hlt0 := AHeap.lt hk0
  refine ac_gcs (vrl_fl hold_plain []) (ac_body Try.func13 rfl Try.ntmps13 rfl ?_)
  refine aw_seq ?_
  refine aw_region ?_
  refine al_opd rfl rfl rfl (ao_boxa (by rfl)) ?_
  first | refine al_opd rfl rfl rfl (ao_as (v := .slice _ _ _) rfl) ?_ | refine al_opd rfl rfl rfl (ao_as (v := v) rfl) ?_
  refine al_opd rfl rfl rfl (ao_as (v := .int _ _) rfl) ?_
  refine al_nilT ?_
  refine aw_seq ?_
  refine aw_seq ?_
  refine aw_region ?_
  first | refine al_opd rfl rfl rfl (ao_mv (v := .slice _ _ _) rfl) ?_ | refine al_opd rfl rfl rfl (ao_mv (v := v) rfl) ?_
  refine al_opd rfl rfl rfl (ao_calld (l03Holds_c (L := L) (v := v) (ks := ks) (hs := hs) (b := false) (ha0.mono (by exact SMp)) (hh0.mono (by exact SMp)) (by exact HLp) hlen hn hL hw (no hv)) Try.call30 rfl rfl) ?_
  refine al_opd rfl rfl rfl (ao_not rfl) ?_
  refine al_nilT ?_
  refine aw_cond rfl (fun h1_ => ?_) (fun h1_ => ?_)
  rotate_left
  · try simp only [nrm] at h1_
    first | done | omega | (exfalso; revert h1_; simp; (first | done | omega))
  try simp only [nrm] at h1_
  refine aw_seq ?_
  refine aw_region ?_
  refine al_opd rfl rfl rfl (ao_lit0 Try.underlying36 Try.sizeOf54 Try.zeroValue54 (by rfl) (by rfl) rfl) ?_
  first | refine al_opd rfl rfl rfl (ao_as (v := .slice _ _ _) rfl) ?_ | refine al_opd rfl rfl rfl (ao_as (v := v) rfl) ?_
  refine al_opd rfl rfl rfl (ao_as (v := .int _ _) rfl) ?_
  refine al_nilT ?_
  refine aw_ret ?_
  refine thenA_r ?_
  refine ends2 rfl (rv_tmp (v := .slice _ _ _) rfl) (rv_tmp (v := .int _ _) rfl) ?_
  exact ⟨by exact SMp, _, by exact LEp, by exact HLp, fun ρ h => vr_tup2 (vr_sl h (by omega) (by omega)) (.int _ _)⟩

-- spec.LetGo
theorem specLet2_c {L m : Int} {v : Value} {ks : List Int} {hs : List Hold} {lb c : Nat} {H : AHeap} (ha0 : Sl H i16 1 v ks) (hk0 : H.blk lb = some (.cells (fl hold hs) 2)) (hcc : hs.length ≤ c) (hlen : ks.length ≤ 4194304) (hn : hs.length ≤ 4194304) (hL : -32768 ≤ L ∧ L ≤ 32767) (hw : holdOk hs) (hv : okRope L ks ∧ okHolds ks.length hs) (hm : ¬ (0 ≤ m ∧ m ≤ (hs.length : Int) - 1)) : ACd Try.prog 13 [.agg #[.int .i16 L, v], .slice (some ⟨lb, 0, none⟩) hs.length c, .int .i64 m] H (.tuple #[.slice (some ⟨H.next, 0, none⟩) 0 0, .int .i64 2]) (H.push (.cells (fl hold []) 2)) := by
  have hh0 : Sl H hold 2 (.slice (some ⟨lb, 0, none⟩) hs.length c) hs := Sl.full hold_len hk0 rfl rfl rfl
  have hlt0 := AHeap.lt hk0
  refine ac_gcs (vrl_fl hold_plain []) (ac_body Try.func13 rfl Try.ntmps13 rfl ?_)
  refine aw_seq ?_
  refine aw_region ?_
  refine al_opd rfl rfl rfl (ao_boxa (by rfl)) ?_
  first | refine al_opd rfl rfl rfl (ao_as (v := .slice _ _ _) rfl) ?_ | refine al_opd rfl rfl rfl (ao_as (v := v) rfl) ?_
  refine al_opd rfl rfl rfl (ao_as (v := .int _ _) rfl) ?_
  refine al_nilT ?_
  refine aw_seq ?_
  refine aw_seq ?_
  refine aw_region ?_
  first | refine al_opd rfl rfl rfl (ao_mv (v := .slice _ _ _) rfl) ?_ | refine al_opd rfl rfl rfl (ao_mv (v := v) rfl) ?_
  refine al_opd rfl rfl rfl (ao_calld (l03Holds_c (L := L) (v := v) (ks := ks) (hs := hs) (b := true) (ha0.mono (by exact SMp)) (hh0.mono (by exact SMp)) (by exact HLp) hlen hn hL hw (yes hv)) Try.call30 rfl rfl) ?_
  refine al_opd rfl rfl rfl (ao_not rfl) ?_
  refine al_nilT ?_
  refine aw_cond rfl (fun h1_ => ?_) (fun h1_ => ?_)
  · try simp only [nrm] at h1_
    first | done | omega | (exfalso; revert h1_; simp; (first | done | omega))
  try simp only [nrm] at h1_
  refine aw_skipT ?_
  refine aw_seq ?_
  refine aw_seq ?_
  refine aw_region ?_
  refine al_opd rfl rfl rfl (ao_mv (v := .int _ _) rfl) ?_
  first | refine al_opd rfl rfl rfl (ao_mv (v := .slice _ _ _) rfl) ?_ | refine al_opd rfl rfl rfl (ao_mv (v := v) rfl) ?_
  first | refine al_opd rfl rfl rfl (ao_lenS Try.underlying36 (by rfl)) ?_ | refine al_opd rfl rfl rfl (ao_lenN Try.underlying36 (by rfl)) ?_
  first | refine al_opd rfl rfl rfl ((ao_sub rfl rfl).val (nw_i64 BDp BDp)) ?_ | refine al_opd rfl rfl rfl (ao_sub rfl rfl) ?_
  refine al_opd rfl rfl rfl (ao_calld (l00In_c) Try.call21 rfl rfl) ?_
  refine al_opd rfl rfl rfl (ao_not rfl) ?_
  refine al_nilT ?_
  refine aw_cond rfl (fun h2_ => ?_) (fun h2_ => ?_)
  rotate_left
  · try simp only [nrm] at h2_
    first | done | omega | (exfalso; revert h2_; simp; (first | done | omega))
  try simp only [nrm] at h2_
  refine aw_seq ?_
  refine aw_region ?_
  refine al_opd rfl rfl rfl (ao_lit0 Try.underlying36 Try.sizeOf54 Try.zeroValue54 (by rfl) (by rfl) rfl) ?_
  first | refine al_opd rfl rfl rfl (ao_as (v := .slice _ _ _) rfl) ?_ | refine al_opd rfl rfl rfl (ao_as (v := v) rfl) ?_
  refine al_opd rfl rfl rfl (ao_as (v := .int _ _) rfl) ?_
  refine al_nilT ?_
  refine aw_ret ?_
  refine thenA_r ?_
  refine ends2 rfl (rv_tmp (v := .slice _ _ _) rfl) (rv_tmp (v := .int _ _) rfl) ?_
  exact ⟨by exact SMp, _, by exact LEp, by exact HLp, fun ρ h => vr_tup2 (vr_sl h (by omega) (by omega)) (.int _ _)⟩

def ops_sl5 : Array Oper := #[(Go.Oper.mk (some 19) (Go.Op.buildSlice 36 0 #[]) 36 "l03_ropes.go:160" #[] none), (Go.Oper.mk (some 20) (Go.Op.move (Go.Operand.tmp 1)) 36 "l03_ropes.go:160" #[] none), (Go.Oper.mk (some 21) (Go.Op.move (Go.Operand.tmp 2)) 2 "l03_ropes.go:160" #[] none), (Go.Oper.mk (some 22) (Go.Op.slice 36 (Go.Operand.tmp 20) none (some (Go.Operand.tmp 21)) none) 36 "l03_ropes.go:160" #[(Go.Edge.mk 1 Go.Ground.data), (Go.Edge.mk 2 Go.Ground.data)] none), (Go.Oper.mk (some 23) (Go.Op.call (Go.Call.mk (Go.Callee.builtin Go.Builtin.append) #[(Go.Operand.tmp 19), (Go.Operand.tmp 22)] #[36, 36])) 36 "l03_ropes.go:160" #[(Go.Edge.mk 0 Go.Ground.data), (Go.Edge.mk 3 Go.Ground.data)] none), (Go.Oper.mk (some 24) (Go.Op.move (Go.Operand.tmp 1)) 36 "l03_ropes.go:160" #[] none), (Go.Oper.mk (some 25) (Go.Op.move (Go.Operand.tmp 2)) 2 "l03_ropes.go:160" #[] none), (Go.Oper.mk (some 26) (Go.Op.binOp Go.BinOp.add 2 (Go.Operand.tmp 25) (Go.Operand.const (Go.Value.int Go.IntKind.i64 1)) 2) 2 "l03_ropes.go:160" #[(Go.Edge.mk 6 Go.Ground.data)] none), (Go.Oper.mk (some 27) (Go.Op.slice 36 (Go.Operand.tmp 24) (some (Go.Operand.tmp 26)) none none) 36 "l03_ropes.go:160" #[(Go.Edge.mk 5 Go.Ground.data), (Go.Edge.mk 7 Go.Ground.data)] none), (Go.Oper.mk (some 28) (Go.Op.call (Go.Call.mk (Go.Callee.builtin Go.Builtin.append) #[(Go.Operand.tmp 23), (Go.Operand.tmp 27)] #[36, 36])) 36 "l03_ropes.go:160" #[(Go.Edge.mk 4 Go.Ground.data), (Go.Edge.mk 8 Go.Ground.data), (Go.Edge.mk 4 Go.Ground.chain)] none), (Go.Oper.mk (some 6) (Go.Op.assign (Go.Operand.tmp 28)) 36 "l03_ropes.go:160" #[(Go.Edge.mk 9 Go.Ground.data), (Go.Edge.mk 9 Go.Ground.chain), (Go.Edge.mk 0 Go.Ground.phase), (Go.Edge.mk 1 Go.Ground.phase), (Go.Edge.mk 2 Go.Ground.phase), (Go.Edge.mk 3 Go.Ground.phase), (Go.Edge.mk 4 Go.Ground.phase), (Go.Edge.mk 5 Go.Ground.phase), (Go.Edge.mk 6 Go.Ground.phase), (Go.Edge.mk 7 Go.Ground.phase), (Go.Edge.mk 8 Go.Ground.phase), (Go.Edge.mk 9 Go.Ground.phase)] none), (Go.Oper.mk (some 7) (Go.Op.assign (Go.Operand.const (Go.Value.int Go.IntKind.i64 0))) 2 "l03_ropes.go:160" #[(Go.Edge.mk 10 Go.Ground.chain), (Go.Edge.mk 0 Go.Ground.phase), (Go.Edge.mk 1 Go.Ground.phase), (Go.Edge.mk 2 Go.Ground.phase), (Go.Edge.mk 3 Go.Ground.phase), (Go.Edge.mk 4 Go.Ground.phase), (Go.Edge.mk 5 Go.Ground.phase), (Go.Edge.mk 6 Go.Ground.phase), (Go.Edge.mk 7 Go.Ground.phase), (Go.Edge.mk 8 Go.Ground.phase), (Go.Edge.mk 9 Go.Ground.phase), (Go.Edge.mk 10 Go.Ground.phase)] none)]
abbrev sl5_l0 : Array Bool := #[true, true, true, true, true, true, true, true, true, true, true, true]
abbrev sl5_l1 : Array Bool := #[true, true, true, true, true, true, true, true, true, true, true, false]
abbrev sl5_l2 : Array Bool := #[true, true, true, true, true, true, true, true, true, true, false, false]
abbrev sl5_l3 : Array Bool := #[true, true, true, true, true, true, true, true, true, false, false, false]
abbrev sl5_l4 : Array Bool := #[true, true, true, true, false, true, true, true, true, false, false, false]
abbrev sl5_l5 : Array Bool := #[false, true, true, true, false, true, true, true, true, false, false, false]
abbrev sl5_l6 : Array Bool := #[false, true, false, false, false, false, false, false, false, false, false, false]
abbrev sl5_l7 : Array Bool := #[false, true, true, false, false, false, false, false, false, false, false, false]
abbrev sl5_l8 : Array Bool := #[false, true, true, true, false, false, false, false, false, false, false, false]
abbrev sl5_l9 : Array Bool := #[false, true, true, true, false, true, false, false, false, false, false, false]
abbrev sl5_l10 : Array Bool := #[false, true, true, true, false, true, true, false, false, false, false, false]
abbrev sl5_l11 : Array Bool := #[false, true, true, true, false, true, true, true, false, false, false, false]
abbrev sl5_J0 (hs : List Hold) (lb i c : Nat) (H : AHeap) (fr : AFr) (G : AHeap) : Prop := ∃ get : Nat → Value, fr = ⟨29, get⟩ ∧ ∃ (b28 : Nat), Same H.next H G ∧ G.blk lb = some (.cells (fl hold hs) 2) ∧ H.next ≤ G.next ∧ H.next ≤ b28 ∧ b28 < G.next ∧ G.blk b28 = some (.cells (fl hold (letL hs i)) 2) ∧ get 6 = .slice (some ⟨b28, 0, none⟩) (0 + i + (hs.length - (i + 1))) (0 + i + (hs.length - (i + 1)) + 1) ∧ get 7 = .int .i64 0
abbrev sl5_J1 (hs : List Hold) (lb i c : Nat) (H : AHeap) (fr : AFr) (G : AHeap) : Prop := ∃ get : Nat → Value, fr = ⟨29, get⟩ ∧ ∃ (b28 : Nat), Same H.next H G ∧ G.blk lb = some (.cells (fl hold hs) 2) ∧ H.next ≤ G.next ∧ H.next ≤ b28 ∧ b28 < G.next ∧ G.blk b28 = some (.cells (fl hold (letL hs i)) 2) ∧ get 6 = .slice (some ⟨b28, 0, none⟩) (0 + i + (hs.length - (i + 1))) (0 + i + (hs.length - (i + 1)) + 1)
abbrev sl5_J2 (hs : List Hold) (lb i c : Nat) (H : AHeap) (fr : AFr) (G : AHeap) : Prop := ∃ get : Nat → Value, fr = ⟨29, get⟩ ∧ ∃ (b28 : Nat), Same H.next H G ∧ G.blk lb = some (.cells (fl hold hs) 2) ∧ H.next ≤ G.next ∧ H.next ≤ b28 ∧ b28 < G.next ∧ G.blk b28 = some (.cells (fl hold (letL hs i)) 2) ∧ get 28 = .slice (some ⟨b28, 0, none⟩) (0 + i + (hs.length - (i + 1))) (0 + i + (hs.length - (i + 1)) + 1)
abbrev sl5_J3 (hs : List Hold) (lb i c : Nat) (H : AHeap) (fr : AFr) (G : AHeap) : Prop := ∃ get : Nat → Value, fr = ⟨29, get⟩ ∧ ∃ (b23 : Nat), Same H.next H G ∧ G.blk lb = some (.cells (fl hold hs) 2) ∧ H.next ≤ G.next ∧ H.next ≤ b23 ∧ b23 < G.next ∧ G.blk b23 = some (.cells (fl hold (hs.take i)) 2) ∧ get 23 = .slice (some ⟨b23, 0, none⟩) (0 + i) (0 + i + 1) ∧ get 27 = .slice (some ⟨lb, 0 + (i + 1) * 2, none⟩) (hs.length - (i + 1)) (hs.length - (i + 1) + 1)
abbrev sl5_J4 (hs : List Hold) (lb i c : Nat) (H : AHeap) (fr : AFr) (G : AHeap) : Prop := ∃ get : Nat → Value, fr = ⟨29, get⟩ ∧ ∃ (b19 : Nat), Same H.next H G ∧ G.blk lb = some (.cells (fl hold hs) 2) ∧ H.next ≤ G.next ∧ H.next ≤ b19 ∧ b19 < G.next ∧ G.blk b19 = some (.cells (fl hold []) 2) ∧ get 19 = .slice (some ⟨b19, 0, none⟩) 0 0 ∧ get 22 = .slice (some ⟨lb, 0, none⟩) i (i + 1) ∧ get 27 = .slice (some ⟨lb, 0 + (i + 1) * 2, none⟩) (hs.length - (i + 1)) (hs.length - (i + 1) + 1)
abbrev sl5_J5 (hs : List Hold) (lb i c : Nat) (H : AHeap) (fr : AFr) (G : AHeap) : Prop := ∃ get : Nat → Value, fr = ⟨29, get⟩ ∧ Same H.next H G ∧ G.blk lb = some (.cells (fl hold hs) 2) ∧ H.next ≤ G.next ∧ get 22 = .slice (some ⟨lb, 0, none⟩) i (i + 1) ∧ get 27 = .slice (some ⟨lb, 0 + (i + 1) * 2, none⟩) (hs.length - (i + 1)) (hs.length - (i + 1) + 1)
abbrev sl5_J6 (hs : List Hold) (lb i c : Nat) (H : AHeap) (fr : AFr) (G : AHeap) : Prop := ∃ get : Nat → Value, fr = ⟨29, get⟩ ∧ Same H.next H G ∧ G.blk lb = some (.cells (fl hold hs) 2) ∧ H.next ≤ G.next ∧ get 1 = .slice (some ⟨lb, 0, none⟩) hs.length c ∧ get 2 = .int .i64 i
set_option maxHeartbeats 4000000 in
theorem sl5_st_0 {hs : List Hold} {lb i c : Nat} {H : AHeap} {Q : Exit → AFr → AHeap → Prop} (hkl : H.blk lb = some (.cells (fl hold hs) 2)) (hi : i < hs.length) (hnl : hs.length ≤ 4194304) (hp : ∀ c fr G, ¬ Q (.panic c) fr G) (hfin : ∀ fr G, sl5_J0 hs lb i c H fr G → Q .normal fr G) : ∀ fr G, sl5_J0 hs lb i c H fr G → AA Try.prog ops_sl5 Q 0 sl5_l0 fr G := by
  have hlt0 := AHeap.lt hkl
  have hdl : (hs.drop (i + 1)).length = hs.length - (i + 1) := by simp
  have htl : (hs.take i).length = i := by rw [List.length_take]; omega
  have htl2 : ((hs.drop 0).take i).length = i := htl
  exact fun fr G h => aa_done (by kernel_rfl) (hfin fr G h)
set_option maxHeartbeats 4000000 in
theorem sl5_st_1 {hs : List Hold} {lb i c : Nat} {H : AHeap} {Q : Exit → AFr → AHeap → Prop} (hkl : H.blk lb = some (.cells (fl hold hs) 2)) (hi : i < hs.length) (hnl : hs.length ≤ 4194304) (hp : ∀ c fr G, ¬ Q (.panic c) fr G) (hfin : ∀ fr G, sl5_J0 hs lb i c H fr G → Q .normal fr G) : ∀ fr G, sl5_J1 hs lb i c H fr G → AA Try.prog ops_sl5 Q 1 sl5_l1 fr G := by
  have hlt0 := AHeap.lt hkl
  have hdl : (hs.drop (i + 1)).length = hs.length - (i + 1) := by simp
  have htl : (hs.take i).length = i := by rw [List.length_take]; omega
  have htl2 : ((hs.drop 0).take i).length = i := htl
  rintro fr G ⟨get, rfl, b28, hk0, hk1, hn, hl28, hu28, hc28, g6⟩
  refine aa_slot (d := 6) (v := .slice (some ⟨b28, 0, none⟩) (0 + i + (hs.length - (i + 1))) (0 + i + (hs.length - (i + 1)) + 1)) g6 ?_
  refine aax1 (i := 11) (by kernel_rfl) ?_
  · exact aa_oL (listed' := sl5_l0) rfl rfl rfl rfl (by kernel_rfl) (ao_as (v := .int _ _) rfl) (sl5_st_0 hkl hi hnl hp hfin _ _ ⟨_, rfl, b28, hk0, hk1, hn, hl28, hu28, hc28, rfl, rfl⟩)
set_option maxHeartbeats 4000000 in
theorem sl5_st_2 {hs : List Hold} {lb i c : Nat} {H : AHeap} {Q : Exit → AFr → AHeap → Prop} (hkl : H.blk lb = some (.cells (fl hold hs) 2)) (hi : i < hs.length) (hnl : hs.length ≤ 4194304) (hp : ∀ c fr G, ¬ Q (.panic c) fr G) (hfin : ∀ fr G, sl5_J0 hs lb i c H fr G → Q .normal fr G) : ∀ fr G, sl5_J2 hs lb i c H fr G → AA Try.prog ops_sl5 Q 2 sl5_l2 fr G := by
  have hlt0 := AHeap.lt hkl
  have hdl : (hs.drop (i + 1)).length = hs.length - (i + 1) := by simp
  have htl : (hs.take i).length = i := by rw [List.length_take]; omega
  have htl2 : ((hs.drop 0).take i).length = i := htl
  rintro fr G ⟨get, rfl, b28, hk0, hk1, hn, hl28, hu28, hc28, g28⟩
  refine aa_slot (d := 28) (v := .slice (some ⟨b28, 0, none⟩) (0 + i + (hs.length - (i + 1))) (0 + i + (hs.length - (i + 1)) + 1)) g28 ?_
  refine aax1 (i := 10) (by kernel_rfl) ?_
  · exact aa_oL (listed' := sl5_l1) rfl rfl rfl rfl (by kernel_rfl) (ao_as (v := .slice _ _ _) rfl) (sl5_st_1 hkl hi hnl hp hfin _ _ ⟨_, rfl, b28, hk0, hk1, hn, hl28, hu28, hc28, rfl⟩)
set_option maxHeartbeats 4000000 in
theorem sl5_st_3 {hs : List Hold} {lb i c : Nat} {H : AHeap} {Q : Exit → AFr → AHeap → Prop} (hkl : H.blk lb = some (.cells (fl hold hs) 2)) (hi : i < hs.length) (hnl : hs.length ≤ 4194304) (hp : ∀ c fr G, ¬ Q (.panic c) fr G) (hfin : ∀ fr G, sl5_J0 hs lb i c H fr G → Q .normal fr G) : ∀ fr G, sl5_J3 hs lb i c H fr G → AA Try.prog ops_sl5 Q 3 sl5_l3 fr G := by
  have hlt0 := AHeap.lt hkl
  have hdl : (hs.drop (i + 1)).length = hs.length - (i + 1) := by simp
  have htl : (hs.take i).length = i := by rw [List.length_take]; omega
  have htl2 : ((hs.drop 0).take i).length = i := htl
  rintro fr G ⟨get, rfl, b23, hk0, hk1, hn, hl23, hu23, hc23, g23, g27⟩
  refine aa_slot (d := 23) (v := .slice (some ⟨b23, 0, none⟩) (0 + i) (0 + i + 1)) g23 ?_
  refine aa_slot (d := 27) (v := .slice (some ⟨lb, 0 + (i + 1) * 2, none⟩) (hs.length - (i + 1)) (hs.length - (i + 1) + 1)) g27 ?_
  refine aax1 (i := 9) (by kernel_rfl) ?_
  · exact aa_oL (listed' := sl5_l2) rfl rfl rfl rfl (by kernel_rfl) (ao_appC (news := fl hold (hs.drop (i + 1))) Try.underlying36 ⟨_, Try.underlying36⟩ elem54 (by rfl) (by rfl) hc23 (by rw [fl_len hold_len, htl]; omega) (srcn ((Sl.part (i := i + 1) (m := hs.drop (i + 1)) hold_len hk1 rfl rfl (by omega) (List.take_of_length_le (by omega)) (by omega) : Sl _ hold 2 (.slice (some ⟨lb, 0 + (i + 1) * 2, none⟩) (hs.length - (i + 1)) (hs.length - (i + 1) + 1)) _).src hold_len (by decide)) hdl) (by rw [List.all_eq_true]; intro v hv; obtain ⟨z, _, h⟩ := List.mem_flatMap.mp hv; simp [hold] at h; rcases h with rfl | rfl <;> rfl) (by omega) (by omega)) (sl5_st_2 hkl hi hnl hp hfin _ _ ⟨_, rfl, G.next, (hk0.kill (by omega)).push hn _, blk_push_old ((blk_kill_ne (by omega)).trans hk1), Nat.le_succ_of_le hn, hn, Nat.lt_succ_self _, (blk_push_new _ _).trans (by rw [letL, fl_app]; rfl), rfl⟩)
set_option maxHeartbeats 4000000 in
theorem sl5_st_4 {hs : List Hold} {lb i c : Nat} {H : AHeap} {Q : Exit → AFr → AHeap → Prop} (hkl : H.blk lb = some (.cells (fl hold hs) 2)) (hi : i < hs.length) (hnl : hs.length ≤ 4194304) (hp : ∀ c fr G, ¬ Q (.panic c) fr G) (hfin : ∀ fr G, sl5_J0 hs lb i c H fr G → Q .normal fr G) : ∀ fr G, sl5_J4 hs lb i c H fr G → AA Try.prog ops_sl5 Q 4 sl5_l4 fr G := by
  have hlt0 := AHeap.lt hkl
  have hdl : (hs.drop (i + 1)).length = hs.length - (i + 1) := by simp
  have htl : (hs.take i).length = i := by rw [List.length_take]; omega
  have htl2 : ((hs.drop 0).take i).length = i := htl
  rintro fr G ⟨get, rfl, b19, hk0, hk1, hn, hl19, hu19, hc19, g19, g22, g27⟩
  refine aa_slot (d := 19) (v := .slice (some ⟨b19, 0, none⟩) 0 0) g19 ?_
  refine aa_slot (d := 22) (v := .slice (some ⟨lb, 0, none⟩) i (i + 1)) g22 ?_
  refine aa_slot (d := 27) (v := .slice (some ⟨lb, 0 + (i + 1) * 2, none⟩) (hs.length - (i + 1)) (hs.length - (i + 1) + 1)) g27 ?_
  refine aax1 (i := 4) (by kernel_rfl) ?_
  · exact aa_oL (listed' := sl5_l3) rfl rfl rfl rfl (by kernel_rfl) (ao_appC (news := fl hold (hs.take i)) Try.underlying36 ⟨_, Try.underlying36⟩ elem54 (by rfl) (by rfl) hc19 (by rfl) (srcn ((Sl.part (i := 0) (m := hs.take i) hold_len hk1 rfl rfl (by omega) rfl (by omega) : Sl _ hold 2 (.slice (some ⟨lb, 0, none⟩) i (i + 1)) _).src hold_len (by decide)) htl) (by rw [List.all_eq_true]; intro v hv; obtain ⟨z, _, h⟩ := List.mem_flatMap.mp hv; simp [hold] at h; rcases h with rfl | rfl <;> rfl) (by omega) (by omega)) (sl5_st_3 hkl hi hnl hp hfin _ _ ⟨_, rfl, G.next, (hk0.kill (by omega)).push hn _, blk_push_old ((blk_kill_ne (by omega)).trans hk1), Nat.le_succ_of_le hn, hn, Nat.lt_succ_self _, blk_push_new _ _, rfl, rfl⟩)
set_option maxHeartbeats 4000000 in
theorem sl5_st_5 {hs : List Hold} {lb i c : Nat} {H : AHeap} {Q : Exit → AFr → AHeap → Prop} (hkl : H.blk lb = some (.cells (fl hold hs) 2)) (hi : i < hs.length) (hnl : hs.length ≤ 4194304) (hp : ∀ c fr G, ¬ Q (.panic c) fr G) (hfin : ∀ fr G, sl5_J0 hs lb i c H fr G → Q .normal fr G) : ∀ fr G, sl5_J5 hs lb i c H fr G → AA Try.prog ops_sl5 Q 5 sl5_l5 fr G := by
  have hlt0 := AHeap.lt hkl
  have hdl : (hs.drop (i + 1)).length = hs.length - (i + 1) := by simp
  have htl : (hs.take i).length = i := by rw [List.length_take]; omega
  have htl2 : ((hs.drop 0).take i).length = i := htl
  rintro fr G ⟨get, rfl, hk0, hk1, hn, g22, g27⟩
  refine aa_slot (d := 22) (v := .slice (some ⟨lb, 0, none⟩) i (i + 1)) g22 ?_
  refine aa_slot (d := 27) (v := .slice (some ⟨lb, 0 + (i + 1) * 2, none⟩) (hs.length - (i + 1)) (hs.length - (i + 1) + 1)) g27 ?_
  refine aax1 (i := 0) (by kernel_rfl) ?_
  · exact aa_oL (listed' := sl5_l4) rfl rfl rfl rfl (by kernel_rfl) (ao_lit0 Try.underlying36 Try.sizeOf54 Try.zeroValue54 (by rfl) (by rfl) rfl) (sl5_st_4 hkl hi hnl hp hfin _ _ ⟨_, rfl, G.next, hk0.push (by omega) _, blk_push_old hk1, Nat.le_succ_of_le hn, hn, Nat.lt_succ_self _, blk_push_new _ _, rfl, rfl, rfl⟩)
set_option maxHeartbeats 4000000 in
theorem sl5_c {hs : List Hold} {lb i c : Nat} {H : AHeap} {Q : Exit → AFr → AHeap → Prop} (hkl : H.blk lb = some (.cells (fl hold hs) 2)) (hi : i < hs.length) (hnl : hs.length ≤ 4194304) (hp : ∀ c fr G, ¬ Q (.panic c) fr G) (hfin : ∀ fr G, sl5_J0 hs lb i c H fr G → Q .normal fr G) : ∀ fr G, sl5_J6 hs lb i c H fr G → AA Try.prog ops_sl5 Q (ops_sl5).size (Array.replicate (ops_sl5).size false) fr G := by
  have hlt0 := AHeap.lt hkl
  have hdl : (hs.drop (i + 1)).length = hs.length - (i + 1) := by simp
  have htl : (hs.take i).length = i := by rw [List.length_take]; omega
  have htl2 : ((hs.drop 0).take i).length = i := htl
  rintro fr G ⟨get, rfl, hk0, hk1, hn, g1, g2⟩
  refine aa_slot (d := 1) (v := .slice (some ⟨lb, 0, none⟩) hs.length c) g1 ?_
  refine aa_slot (d := 2) (v := .int .i64 i) g2 ?_
  exact aa_take (i := 1) (listed' := sl5_l6) rfl (by kernel_rfl) (by kernel_rfl) (by kernel_rfl) rfl rfl rfl (by kernel_rfl) hp (apm_mv (v := .slice (some ⟨lb, 0, none⟩) hs.length c) rfl) (aa_take (i := 2) (listed' := sl5_l7) rfl (by kernel_rfl) (by kernel_rfl) (by kernel_rfl) rfl rfl rfl (by kernel_rfl) hp (apm_mv (v := .int .i64 i) rfl) (aa_take (i := 3) (listed' := sl5_l8) rfl (by kernel_rfl) (by kernel_rfl) (by kernel_rfl) rfl rfl rfl (by kernel_rfl) hp (apm_sliceHi Try.underlying36 Try.sizeOf54 (by rfl) (by rfl) (by first | rfl | omega) (by exact HLp) (by rfl) (by exact IXp)) (aa_take (i := 5) (listed' := sl5_l9) rfl (by kernel_rfl) (by kernel_rfl) (by kernel_rfl) rfl rfl rfl (by kernel_rfl) hp (apm_mv (v := .slice (some ⟨lb, 0, none⟩) hs.length c) rfl) (aa_take (i := 6) (listed' := sl5_l10) rfl (by kernel_rfl) (by kernel_rfl) (by kernel_rfl) rfl rfl rfl (by kernel_rfl) hp (apm_mv (v := .int .i64 i) rfl) (aa_take (i := 7) (listed' := sl5_l11) rfl (by kernel_rfl) (by kernel_rfl) (by kernel_rfl) rfl rfl rfl (by kernel_rfl) hp ((apm_add rfl rfl).val (v' := .int .i64 ((i + 1 : Nat) : Int)) (nw_i64 (by omega) (by omega))) (aa_take (i := 8) (listed' := sl5_l5) rfl (by kernel_rfl) (by kernel_rfl) (by kernel_rfl) rfl rfl rfl (by kernel_rfl) hp (apm_sliceLo Try.underlying36 Try.sizeOf54 (by rfl) (by rfl) (by first | rfl | omega) (by exact HLp) (by rfl) (by exact IXp)) (sl5_st_5 hkl hi hnl hp hfin _ _ ⟨_, rfl, hk0, hk1, hn, rfl, rfl⟩)))))))
-- spec.LetGo
theorem specLet1_c {L : Int} {v : Value} {ks : List Int} {hs : List Hold} {lb c : Nat} {i : Nat} {H : AHeap} (ha0 : Sl H i16 1 v ks) (hk0 : H.blk lb = some (.cells (fl hold hs) 2)) (hcc : hs.length ≤ c) (hlen : ks.length ≤ 4194304) (hn : hs.length ≤ 4194304) (hL : -32768 ≤ L ∧ L ≤ 32767) (hw : holdOk hs) (hv : okRope L ks ∧ okHolds ks.length hs) (hi : i < hs.length) : ACd Try.prog 13 [.agg #[.int .i16 L, v], .slice (some ⟨lb, 0, none⟩) hs.length c, .int .i64 i] H (.tuple #[.slice (some ⟨H.next, 0, none⟩) (letL hs i).length ((letL hs i).length + 1), .int .i64 0]) (H.push (.cells (fl hold (letL hs i)) 2)) := by
  have hh0 : Sl H hold 2 (.slice (some ⟨lb, 0, none⟩) hs.length c) hs := Sl.full hold_len hk0 rfl rfl rfl
  have hlt0 := AHeap.lt hk0
  refine ac_gcs (vrl_fl hold_plain _) (ac_body Try.func13 rfl Try.ntmps13 rfl ?_)
  refine aw_seq ?_
  refine aw_region ?_
  refine al_opd rfl rfl rfl (ao_boxa (by rfl)) ?_
  first | refine al_opd rfl rfl rfl (ao_as (v := .slice _ _ _) rfl) ?_ | refine al_opd rfl rfl rfl (ao_as (v := v) rfl) ?_
  refine al_opd rfl rfl rfl (ao_as (v := .int _ _) rfl) ?_
  refine al_nilT ?_
  refine aw_seq ?_
  refine aw_seq ?_
  refine aw_region ?_
  first | refine al_opd rfl rfl rfl (ao_mv (v := .slice _ _ _) rfl) ?_ | refine al_opd rfl rfl rfl (ao_mv (v := v) rfl) ?_
  refine al_opd rfl rfl rfl (ao_calld (l03Holds_c (L := L) (v := v) (ks := ks) (hs := hs) (b := true) (ha0.mono (by exact SMp)) (hh0.mono (by exact SMp)) (by exact HLp) hlen hn hL hw (yes hv)) Try.call30 rfl rfl) ?_
  refine al_opd rfl rfl rfl (ao_not rfl) ?_
  refine al_nilT ?_
  refine aw_cond rfl (fun h1_ => ?_) (fun h1_ => ?_)
  · try simp only [nrm] at h1_
    first | done | omega | (exfalso; revert h1_; simp; (first | done | omega))
  try simp only [nrm] at h1_
  refine aw_skipT ?_
  refine aw_seq ?_
  refine aw_seq ?_
  refine aw_region ?_
  refine al_opd rfl rfl rfl (ao_mv (v := .int _ _) rfl) ?_
  first | refine al_opd rfl rfl rfl (ao_mv (v := .slice _ _ _) rfl) ?_ | refine al_opd rfl rfl rfl (ao_mv (v := v) rfl) ?_
  first | refine al_opd rfl rfl rfl (ao_lenS Try.underlying36 (by rfl)) ?_ | refine al_opd rfl rfl rfl (ao_lenN Try.underlying36 (by rfl)) ?_
  first | refine al_opd rfl rfl rfl ((ao_sub rfl rfl).val (nw_i64 BDp BDp)) ?_ | refine al_opd rfl rfl rfl (ao_sub rfl rfl) ?_
  refine al_opd rfl rfl rfl (ao_calld (l00In_c) Try.call21 rfl rfl) ?_
  refine al_opd rfl rfl rfl (ao_not rfl) ?_
  refine al_nilT ?_
  refine aw_cond rfl (fun h2_ => ?_) (fun h2_ => ?_)
  · try simp only [nrm] at h2_
    first | done | omega | (exfalso; revert h2_; simp; (first | done | omega))
  try simp only [nrm] at h2_
  refine aw_skipT ?_
  refine aw_seq ?_
  refine aw_cut (sl5_J0 hs lb i c H) ?_ ?_
  · exact aa_region mo (sl5_c hk0 hi hn (fun _ _ _ h => h) (fun fr G h => thenA_n h) _ _ ⟨_, rfl, by exact SMp, by exact HLp, by exact LEp, rfl, rfl⟩)
  · rintro fr G ⟨get, rfl, b28, hk0, hk1, hn, hl28, hu28, hc28, g6, g7⟩
    refine aw_slot (d := 6) (v := .slice (some ⟨b28, 0, none⟩) (0 + i + (hs.length - (i + 1))) (0 + i + (hs.length - (i + 1)) + 1)) g6 ?_
    refine aw_slot (d := 7) (v := .int .i64 0) g7 ?_
    refine aw_ret ?_
    refine ends2 rfl (rv_tmp (v := .slice _ _ _) rfl) (rv_tmp (v := .int _ _) rfl) ?_
    exact ⟨by exact SMp, b28, by omega, by exact HLp, fun ρ h => vr_tup2 (by rw [letL_len hi, show 0 + i + (hs.length - (i + 1)) = hs.length - 1 by omega]; exact vr_sl h (by omega) (by omega)) (.int _ _)⟩

end Go.Proofs.Ytdcmjbaahcipoaa
