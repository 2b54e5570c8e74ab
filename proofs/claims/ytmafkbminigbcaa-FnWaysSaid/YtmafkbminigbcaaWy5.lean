/- Contracts of the program's functions over abstract heaps. -/
import Derived.Test.YtmafkbminigbcaaWay
import Derived.Test.YtmafkbminigbcaaRy
import Derived.Test.YtmafkbminigbcaaSt
import Derived.Test.YtmafkbminigbcaaSb
import Derived.Test.YtmafkbminigbcaaWy
namespace Go.Proofs.Ytmafkbminigbcaa
open Go Go.AW Go.Proofs
set_option linter.unusedVariables false
set_option linter.unusedSimpArgs false
set_option maxRecDepth 100000
set_option maxHeartbeats 2000000

def ops_implWay14 : Array Oper := #[(Go.Oper.mk (some 23) (Go.Op.load 28 (Go.Operand.tmp 3)) 28 "l01_rooms.go:290" #[] none), (Go.Oper.mk (some 24) (Go.Op.load 31 (Go.Operand.tmp 5)) 31 "l01_rooms.go:290" #[] none), (Go.Oper.mk (some 25) (Go.Op.call (Go.Call.mk (Go.Callee.value (Go.Operand.func 30)) #[(Go.Operand.tmp 23), (Go.Operand.tmp 24)] #[28, 31])) 60 "l01_rooms.go:290" #[(Go.Edge.mk 0 Go.Ground.data), (Go.Edge.mk 1 Go.Ground.data)] none), (Go.Oper.mk (some 26) (Go.Op.load 31 (Go.Operand.tmp 4)) 31 "l01_rooms.go:290" #[(Go.Edge.mk 6 (Go.Ground.gcOnly Go.Departure.lateStores))] none), (Go.Oper.mk (some 27) (Go.Op.buildSlice 35 1 #[(0, (Go.Operand.tmp 26))]) 35 "l01_rooms.go:290" #[(Go.Edge.mk 3 Go.Ground.data), (Go.Edge.mk 6 (Go.Ground.gcOnly Go.Departure.lateStores))] none), (Go.Oper.mk (some 10) (Go.Op.alloc 60) 0 "l01_rooms.go:290" #[] none), (Go.Oper.mk none (Go.Op.store 60 (Go.Operand.tmp 10) (Go.Operand.tmp 25)) 0 "l01_rooms.go:290" #[(Go.Edge.mk 5 Go.Ground.data), (Go.Edge.mk 2 Go.Ground.data), (Go.Edge.mk 2 Go.Ground.chain), (Go.Edge.mk 0 Go.Ground.phase), (Go.Edge.mk 1 Go.Ground.phase), (Go.Edge.mk 2 Go.Ground.phase), (Go.Edge.mk 3 (Go.Ground.textOnly Go.Departure.lateStores)), (Go.Edge.mk 4 (Go.Ground.textOnly Go.Departure.lateStores)), (Go.Edge.mk 5 Go.Ground.phase)] none), (Go.Oper.mk (some 11) (Go.Op.assign (Go.Operand.tmp 27)) 35 "l01_rooms.go:290" #[(Go.Edge.mk 4 Go.Ground.data), (Go.Edge.mk 6 Go.Ground.chain), (Go.Edge.mk 0 Go.Ground.phase), (Go.Edge.mk 1 Go.Ground.phase), (Go.Edge.mk 2 Go.Ground.phase), (Go.Edge.mk 3 Go.Ground.phase), (Go.Edge.mk 4 Go.Ground.phase), (Go.Edge.mk 5 Go.Ground.phase), (Go.Edge.mk 6 Go.Ground.phase)] none)]
abbrev implWay14_l0 : Array Bool := #[true, true, true, true, true, true, true, true]
abbrev implWay14_l1 : Array Bool := #[true, true, true, true, true, true, true, false]
abbrev implWay14_l2 : Array Bool := #[true, true, true, true, true, true, false, false]
abbrev implWay14_l3 : Array Bool := #[true, true, true, true, false, true, true, false]
abbrev implWay14_l4 : Array Bool := #[true, true, true, true, true, false, false, false]
abbrev implWay14_l5 : Array Bool := #[true, true, true, true, false, true, false, false]
abbrev implWay14_l6 : Array Bool := #[true, true, true, false, false, true, true, false]
abbrev implWay14_l7 : Array Bool := #[true, true, false, true, true, true, false, false]
abbrev implWay14_l8 : Array Bool := #[true, true, true, true, false, false, false, false]
abbrev implWay14_l9 : Array Bool := #[true, true, true, false, false, true, false, false]
abbrev implWay14_l10 : Array Bool := #[true, true, false, true, true, false, false, false]
abbrev implWay14_l11 : Array Bool := #[true, true, false, true, false, true, false, false]
abbrev implWay14_l12 : Array Bool := #[true, false, false, true, true, true, false, false]
abbrev implWay14_l13 : Array Bool := #[false, true, false, true, true, true, false, false]
abbrev implWay14_l14 : Array Bool := #[true, true, true, false, false, false, false, false]
abbrev implWay14_l15 : Array Bool := #[true, true, false, true, false, false, false, false]
abbrev implWay14_l16 : Array Bool := #[true, true, false, false, false, true, false, false]
abbrev implWay14_l17 : Array Bool := #[true, false, false, true, true, false, false, false]
abbrev implWay14_l18 : Array Bool := #[true, false, false, true, false, true, false, false]
abbrev implWay14_l19 : Array Bool := #[false, true, false, true, true, false, false, false]
abbrev implWay14_l20 : Array Bool := #[false, true, false, true, false, true, false, false]
abbrev implWay14_l21 : Array Bool := #[false, false, false, true, true, true, false, false]
abbrev implWay14_l22 : Array Bool := #[true, true, false, false, false, false, false, false]
abbrev implWay14_l23 : Array Bool := #[true, false, false, true, false, false, false, false]
abbrev implWay14_l24 : Array Bool := #[true, false, false, false, false, true, false, false]
abbrev implWay14_l25 : Array Bool := #[false, true, false, true, false, false, false, false]
abbrev implWay14_l26 : Array Bool := #[false, true, false, false, false, true, false, false]
abbrev implWay14_l27 : Array Bool := #[false, false, false, true, true, false, false, false]
abbrev implWay14_l28 : Array Bool := #[false, false, false, true, false, true, false, false]
abbrev implWay14_l29 : Array Bool := #[true, false, false, false, false, false, false, false]
abbrev implWay14_l30 : Array Bool := #[false, true, false, false, false, false, false, false]
abbrev implWay14_l31 : Array Bool := #[false, false, false, true, false, false, false, false]
abbrev implWay14_l32 : Array Bool := #[false, false, false, false, false, true, false, false]
abbrev implWay14_l33 : Array Bool := #[false, false, false, false, false, false, false, false]
abbrev implWay14_J0 (r : Room) (a b : Spot) (H : AHeap) (fr : AFr) (G : AHeap) : Prop := ∃ get : Nat → Value, fr = ⟨43, get⟩ ∧ ∃ (b25 b27 b10 : Nat), Same H.next H G ∧ G.blk H.next = some (.cells (roomC r) 1) ∧ G.blk (H.next + 1) = some (.cells (spot a) 1) ∧ G.blk (H.next + 2) = some (.cells (spot b) 1) ∧ H.next + 3 ≤ G.next ∧ H.next + 3 ≤ b25 ∧ b25 < G.next ∧ G.blk b25 = some (mapB (found r b)) ∧ H.next + 3 ≤ b27 ∧ b27 < G.next ∧ G.blk b27 = some (.cells (spot a) 2) ∧ H.next + 3 ≤ b10 ∧ b10 < G.next ∧ G.blk b10 = some (.cells [.map (some b25)] 1) ∧ b25 ≠ b27 ∧ b25 ≠ b10 ∧ b27 ≠ b10 ∧ get 3 = .pointer (some ⟨H.next, 0, none⟩) ∧ get 4 = .pointer (some ⟨H.next + 1, 0, none⟩) ∧ get 5 = .pointer (some ⟨H.next + 2, 0, none⟩) ∧ get 10 = .pointer (some ⟨b10, 0, none⟩) ∧ get 11 = .slice (some ⟨b27, 0, none⟩) 1 1
abbrev implWay14_J1 (r : Room) (a b : Spot) (H : AHeap) (fr : AFr) (G : AHeap) : Prop := ∃ get : Nat → Value, fr = ⟨43, get⟩ ∧ ∃ (b25 b27 b10 : Nat), Same H.next H G ∧ G.blk H.next = some (.cells (roomC r) 1) ∧ G.blk (H.next + 1) = some (.cells (spot a) 1) ∧ G.blk (H.next + 2) = some (.cells (spot b) 1) ∧ H.next + 3 ≤ G.next ∧ H.next + 3 ≤ b25 ∧ b25 < G.next ∧ G.blk b25 = some (mapB (found r b)) ∧ H.next + 3 ≤ b27 ∧ b27 < G.next ∧ G.blk b27 = some (.cells (spot a) 2) ∧ H.next + 3 ≤ b10 ∧ b10 < G.next ∧ G.blk b10 = some (.cells [.map (some b25)] 1) ∧ b25 ≠ b27 ∧ b25 ≠ b10 ∧ b27 ≠ b10 ∧ get 3 = .pointer (some ⟨H.next, 0, none⟩) ∧ get 4 = .pointer (some ⟨H.next + 1, 0, none⟩) ∧ get 5 = .pointer (some ⟨H.next + 2, 0, none⟩) ∧ get 27 = .slice (some ⟨b27, 0, none⟩) 1 1 ∧ get 10 = .pointer (some ⟨b10, 0, none⟩)
abbrev implWay14_J2 (r : Room) (a b : Spot) (H : AHeap) (fr : AFr) (G : AHeap) : Prop := ∃ get : Nat → Value, fr = ⟨43, get⟩ ∧ ∃ (b25 b27 b10 : Nat), Same H.next H G ∧ G.blk H.next = some (.cells (roomC r) 1) ∧ G.blk (H.next + 1) = some (.cells (spot a) 1) ∧ G.blk (H.next + 2) = some (.cells (spot b) 1) ∧ H.next + 3 ≤ G.next ∧ H.next + 3 ≤ b25 ∧ b25 < G.next ∧ G.blk b25 = some (mapB (found r b)) ∧ H.next + 3 ≤ b27 ∧ b27 < G.next ∧ G.blk b27 = some (.cells (spot a) 2) ∧ H.next + 3 ≤ b10 ∧ b10 < G.next ∧ G.blk b10 = some (.cells [.map none] 1) ∧ b25 ≠ b27 ∧ b25 ≠ b10 ∧ b27 ≠ b10 ∧ get 3 = .pointer (some ⟨H.next, 0, none⟩) ∧ get 4 = .pointer (some ⟨H.next + 1, 0, none⟩) ∧ get 5 = .pointer (some ⟨H.next + 2, 0, none⟩) ∧ get 25 = .map (some b25) ∧ get 27 = .slice (some ⟨b27, 0, none⟩) 1 1 ∧ get 10 = .pointer (some ⟨b10, 0, none⟩)
abbrev implWay14_J3 (r : Room) (a b : Spot) (H : AHeap) (fr : AFr) (G : AHeap) : Prop := ∃ get : Nat → Value, fr = ⟨43, get⟩ ∧ ∃ (b25 b10 : Nat), Same H.next H G ∧ G.blk H.next = some (.cells (roomC r) 1) ∧ G.blk (H.next + 1) = some (.cells (spot a) 1) ∧ G.blk (H.next + 2) = some (.cells (spot b) 1) ∧ H.next + 3 ≤ G.next ∧ H.next + 3 ≤ b25 ∧ b25 < G.next ∧ G.blk b25 = some (mapB (found r b)) ∧ H.next + 3 ≤ b10 ∧ b10 < G.next ∧ G.blk b10 = some (.cells [.map (some b25)] 1) ∧ b25 ≠ b10 ∧ get 3 = .pointer (some ⟨H.next, 0, none⟩) ∧ get 4 = .pointer (some ⟨H.next + 1, 0, none⟩) ∧ get 5 = .pointer (some ⟨H.next + 2, 0, none⟩) ∧ get 26 = .agg #[.int .i8 a.x, .int .i8 a.y] ∧ get 10 = .pointer (some ⟨b10, 0, none⟩)
abbrev implWay14_J4 (r : Room) (a b : Spot) (H : AHeap) (fr : AFr) (G : AHeap) : Prop := ∃ get : Nat → Value, fr = ⟨43, get⟩ ∧ ∃ (b25 b27 : Nat), Same H.next H G ∧ G.blk H.next = some (.cells (roomC r) 1) ∧ G.blk (H.next + 1) = some (.cells (spot a) 1) ∧ G.blk (H.next + 2) = some (.cells (spot b) 1) ∧ H.next + 3 ≤ G.next ∧ H.next + 3 ≤ b25 ∧ b25 < G.next ∧ G.blk b25 = some (mapB (found r b)) ∧ H.next + 3 ≤ b27 ∧ b27 < G.next ∧ G.blk b27 = some (.cells (spot a) 2) ∧ b25 ≠ b27 ∧ get 3 = .pointer (some ⟨H.next, 0, none⟩) ∧ get 4 = .pointer (some ⟨H.next + 1, 0, none⟩) ∧ get 5 = .pointer (some ⟨H.next + 2, 0, none⟩) ∧ get 25 = .map (some b25) ∧ get 27 = .slice (some ⟨b27, 0, none⟩) 1 1
abbrev implWay14_J5 (r : Room) (a b : Spot) (H : AHeap) (fr : AFr) (G : AHeap) : Prop := ∃ get : Nat → Value, fr = ⟨43, get⟩ ∧ ∃ (b25 b10 : Nat), Same H.next H G ∧ G.blk H.next = some (.cells (roomC r) 1) ∧ G.blk (H.next + 1) = some (.cells (spot a) 1) ∧ G.blk (H.next + 2) = some (.cells (spot b) 1) ∧ H.next + 3 ≤ G.next ∧ H.next + 3 ≤ b25 ∧ b25 < G.next ∧ G.blk b25 = some (mapB (found r b)) ∧ H.next + 3 ≤ b10 ∧ b10 < G.next ∧ G.blk b10 = some (.cells [.map none] 1) ∧ b25 ≠ b10 ∧ get 3 = .pointer (some ⟨H.next, 0, none⟩) ∧ get 4 = .pointer (some ⟨H.next + 1, 0, none⟩) ∧ get 5 = .pointer (some ⟨H.next + 2, 0, none⟩) ∧ get 25 = .map (some b25) ∧ get 26 = .agg #[.int .i8 a.x, .int .i8 a.y] ∧ get 10 = .pointer (some ⟨b10, 0, none⟩)
abbrev implWay14_J6 (r : Room) (a b : Spot) (H : AHeap) (fr : AFr) (G : AHeap) : Prop := ∃ get : Nat → Value, fr = ⟨43, get⟩ ∧ ∃ (b25 b10 : Nat), Same H.next H G ∧ G.blk H.next = some (.cells (roomC r) 1) ∧ G.blk (H.next + 1) = some (.cells (spot a) 1) ∧ G.blk (H.next + 2) = some (.cells (spot b) 1) ∧ H.next + 3 ≤ G.next ∧ H.next + 3 ≤ b25 ∧ b25 < G.next ∧ G.blk b25 = some (mapB (found r b)) ∧ H.next + 3 ≤ b10 ∧ b10 < G.next ∧ G.blk b10 = some (.cells [.map (some b25)] 1) ∧ b25 ≠ b10 ∧ get 3 = .pointer (some ⟨H.next, 0, none⟩) ∧ get 4 = .pointer (some ⟨H.next + 1, 0, none⟩) ∧ get 5 = .pointer (some ⟨H.next + 2, 0, none⟩) ∧ get 10 = .pointer (some ⟨b10, 0, none⟩)
abbrev implWay14_J7 (r : Room) (a b : Spot) (H : AHeap) (fr : AFr) (G : AHeap) : Prop := ∃ get : Nat → Value, fr = ⟨43, get⟩ ∧ ∃ (b27 b10 : Nat), Same H.next H G ∧ G.blk H.next = some (.cells (roomC r) 1) ∧ G.blk (H.next + 1) = some (.cells (spot a) 1) ∧ G.blk (H.next + 2) = some (.cells (spot b) 1) ∧ H.next + 3 ≤ G.next ∧ H.next + 3 ≤ b27 ∧ b27 < G.next ∧ G.blk b27 = some (.cells (spot a) 2) ∧ H.next + 3 ≤ b10 ∧ b10 < G.next ∧ G.blk b10 = some (.cells [.map none] 1) ∧ b27 ≠ b10 ∧ get 3 = .pointer (some ⟨H.next, 0, none⟩) ∧ get 4 = .pointer (some ⟨H.next + 1, 0, none⟩) ∧ get 5 = .pointer (some ⟨H.next + 2, 0, none⟩) ∧ get 23 = .agg (roomC r).toArray ∧ get 24 = .agg #[.int .i8 b.x, .int .i8 b.y] ∧ get 27 = .slice (some ⟨b27, 0, none⟩) 1 1 ∧ get 10 = .pointer (some ⟨b10, 0, none⟩)
abbrev implWay14_J8 (r : Room) (a b : Spot) (H : AHeap) (fr : AFr) (G : AHeap) : Prop := ∃ get : Nat → Value, fr = ⟨43, get⟩ ∧ ∃ (b25 : Nat), Same H.next H G ∧ G.blk H.next = some (.cells (roomC r) 1) ∧ G.blk (H.next + 1) = some (.cells (spot a) 1) ∧ G.blk (H.next + 2) = some (.cells (spot b) 1) ∧ H.next + 3 ≤ G.next ∧ H.next + 3 ≤ b25 ∧ b25 < G.next ∧ G.blk b25 = some (mapB (found r b)) ∧ get 3 = .pointer (some ⟨H.next, 0, none⟩) ∧ get 4 = .pointer (some ⟨H.next + 1, 0, none⟩) ∧ get 5 = .pointer (some ⟨H.next + 2, 0, none⟩) ∧ get 25 = .map (some b25) ∧ get 26 = .agg #[.int .i8 a.x, .int .i8 a.y]
abbrev implWay14_J9 (r : Room) (a b : Spot) (H : AHeap) (fr : AFr) (G : AHeap) : Prop := ∃ get : Nat → Value, fr = ⟨43, get⟩ ∧ ∃ (b25 b10 : Nat), Same H.next H G ∧ G.blk H.next = some (.cells (roomC r) 1) ∧ G.blk (H.next + 1) = some (.cells (spot a) 1) ∧ G.blk (H.next + 2) = some (.cells (spot b) 1) ∧ H.next + 3 ≤ G.next ∧ H.next + 3 ≤ b25 ∧ b25 < G.next ∧ G.blk b25 = some (mapB (found r b)) ∧ H.next + 3 ≤ b10 ∧ b10 < G.next ∧ G.blk b10 = some (.cells [.map none] 1) ∧ b25 ≠ b10 ∧ get 3 = .pointer (some ⟨H.next, 0, none⟩) ∧ get 4 = .pointer (some ⟨H.next + 1, 0, none⟩) ∧ get 5 = .pointer (some ⟨H.next + 2, 0, none⟩) ∧ get 25 = .map (some b25) ∧ get 10 = .pointer (some ⟨b10, 0, none⟩)
abbrev implWay14_J10 (r : Room) (a b : Spot) (H : AHeap) (fr : AFr) (G : AHeap) : Prop := ∃ get : Nat → Value, fr = ⟨43, get⟩ ∧ ∃ (b27 : Nat), Same H.next H G ∧ G.blk H.next = some (.cells (roomC r) 1) ∧ G.blk (H.next + 1) = some (.cells (spot a) 1) ∧ G.blk (H.next + 2) = some (.cells (spot b) 1) ∧ H.next + 3 ≤ G.next ∧ H.next + 3 ≤ b27 ∧ b27 < G.next ∧ G.blk b27 = some (.cells (spot a) 2) ∧ get 3 = .pointer (some ⟨H.next, 0, none⟩) ∧ get 4 = .pointer (some ⟨H.next + 1, 0, none⟩) ∧ get 5 = .pointer (some ⟨H.next + 2, 0, none⟩) ∧ get 23 = .agg (roomC r).toArray ∧ get 24 = .agg #[.int .i8 b.x, .int .i8 b.y] ∧ get 27 = .slice (some ⟨b27, 0, none⟩) 1 1
abbrev implWay14_J11 (r : Room) (a b : Spot) (H : AHeap) (fr : AFr) (G : AHeap) : Prop := ∃ get : Nat → Value, fr = ⟨43, get⟩ ∧ ∃ (b10 : Nat), Same H.next H G ∧ G.blk H.next = some (.cells (roomC r) 1) ∧ G.blk (H.next + 1) = some (.cells (spot a) 1) ∧ G.blk (H.next + 2) = some (.cells (spot b) 1) ∧ H.next + 3 ≤ G.next ∧ H.next + 3 ≤ b10 ∧ b10 < G.next ∧ G.blk b10 = some (.cells [.map none] 1) ∧ get 3 = .pointer (some ⟨H.next, 0, none⟩) ∧ get 4 = .pointer (some ⟨H.next + 1, 0, none⟩) ∧ get 5 = .pointer (some ⟨H.next + 2, 0, none⟩) ∧ get 23 = .agg (roomC r).toArray ∧ get 24 = .agg #[.int .i8 b.x, .int .i8 b.y] ∧ get 26 = .agg #[.int .i8 a.x, .int .i8 a.y] ∧ get 10 = .pointer (some ⟨b10, 0, none⟩)
abbrev implWay14_J12 (r : Room) (a b : Spot) (H : AHeap) (fr : AFr) (G : AHeap) : Prop := ∃ get : Nat → Value, fr = ⟨43, get⟩ ∧ ∃ (b27 b10 : Nat), Same H.next H G ∧ G.blk H.next = some (.cells (roomC r) 1) ∧ G.blk (H.next + 1) = some (.cells (spot a) 1) ∧ G.blk (H.next + 2) = some (.cells (spot b) 1) ∧ H.next + 3 ≤ G.next ∧ H.next + 3 ≤ b27 ∧ b27 < G.next ∧ G.blk b27 = some (.cells (spot a) 2) ∧ H.next + 3 ≤ b10 ∧ b10 < G.next ∧ G.blk b10 = some (.cells [.map none] 1) ∧ b27 ≠ b10 ∧ get 3 = .pointer (some ⟨H.next, 0, none⟩) ∧ get 4 = .pointer (some ⟨H.next + 1, 0, none⟩) ∧ get 5 = .pointer (some ⟨H.next + 2, 0, none⟩) ∧ get 23 = .agg (roomC r).toArray ∧ get 27 = .slice (some ⟨b27, 0, none⟩) 1 1 ∧ get 10 = .pointer (some ⟨b10, 0, none⟩)
abbrev implWay14_J13 (r : Room) (a b : Spot) (H : AHeap) (fr : AFr) (G : AHeap) : Prop := ∃ get : Nat → Value, fr = ⟨43, get⟩ ∧ ∃ (b27 b10 : Nat), Same H.next H G ∧ G.blk H.next = some (.cells (roomC r) 1) ∧ G.blk (H.next + 1) = some (.cells (spot a) 1) ∧ G.blk (H.next + 2) = some (.cells (spot b) 1) ∧ H.next + 3 ≤ G.next ∧ H.next + 3 ≤ b27 ∧ b27 < G.next ∧ G.blk b27 = some (.cells (spot a) 2) ∧ H.next + 3 ≤ b10 ∧ b10 < G.next ∧ G.blk b10 = some (.cells [.map none] 1) ∧ b27 ≠ b10 ∧ get 3 = .pointer (some ⟨H.next, 0, none⟩) ∧ get 4 = .pointer (some ⟨H.next + 1, 0, none⟩) ∧ get 5 = .pointer (some ⟨H.next + 2, 0, none⟩) ∧ get 24 = .agg #[.int .i8 b.x, .int .i8 b.y] ∧ get 27 = .slice (some ⟨b27, 0, none⟩) 1 1 ∧ get 10 = .pointer (some ⟨b10, 0, none⟩)
abbrev implWay14_J14 (r : Room) (a b : Spot) (H : AHeap) (fr : AFr) (G : AHeap) : Prop := ∃ get : Nat → Value, fr = ⟨43, get⟩ ∧ ∃ (b25 : Nat), Same H.next H G ∧ G.blk H.next = some (.cells (roomC r) 1) ∧ G.blk (H.next + 1) = some (.cells (spot a) 1) ∧ G.blk (H.next + 2) = some (.cells (spot b) 1) ∧ H.next + 3 ≤ G.next ∧ H.next + 3 ≤ b25 ∧ b25 < G.next ∧ G.blk b25 = some (mapB (found r b)) ∧ get 3 = .pointer (some ⟨H.next, 0, none⟩) ∧ get 4 = .pointer (some ⟨H.next + 1, 0, none⟩) ∧ get 5 = .pointer (some ⟨H.next + 2, 0, none⟩) ∧ get 25 = .map (some b25)
abbrev implWay14_J15 (r : Room) (a b : Spot) (H : AHeap) (fr : AFr) (G : AHeap) : Prop := ∃ get : Nat → Value, fr = ⟨43, get⟩ ∧ Same H.next H G ∧ G.blk H.next = some (.cells (roomC r) 1) ∧ G.blk (H.next + 1) = some (.cells (spot a) 1) ∧ G.blk (H.next + 2) = some (.cells (spot b) 1) ∧ H.next + 3 ≤ G.next ∧ get 3 = .pointer (some ⟨H.next, 0, none⟩) ∧ get 4 = .pointer (some ⟨H.next + 1, 0, none⟩) ∧ get 5 = .pointer (some ⟨H.next + 2, 0, none⟩) ∧ get 23 = .agg (roomC r).toArray ∧ get 24 = .agg #[.int .i8 b.x, .int .i8 b.y] ∧ get 26 = .agg #[.int .i8 a.x, .int .i8 a.y]
abbrev implWay14_J16 (r : Room) (a b : Spot) (H : AHeap) (fr : AFr) (G : AHeap) : Prop := ∃ get : Nat → Value, fr = ⟨43, get⟩ ∧ ∃ (b10 : Nat), Same H.next H G ∧ G.blk H.next = some (.cells (roomC r) 1) ∧ G.blk (H.next + 1) = some (.cells (spot a) 1) ∧ G.blk (H.next + 2) = some (.cells (spot b) 1) ∧ H.next + 3 ≤ G.next ∧ H.next + 3 ≤ b10 ∧ b10 < G.next ∧ G.blk b10 = some (.cells [.map none] 1) ∧ get 3 = .pointer (some ⟨H.next, 0, none⟩) ∧ get 4 = .pointer (some ⟨H.next + 1, 0, none⟩) ∧ get 5 = .pointer (some ⟨H.next + 2, 0, none⟩) ∧ get 23 = .agg (roomC r).toArray ∧ get 24 = .agg #[.int .i8 b.x, .int .i8 b.y] ∧ get 10 = .pointer (some ⟨b10, 0, none⟩)
abbrev implWay14_J17 (r : Room) (a b : Spot) (H : AHeap) (fr : AFr) (G : AHeap) : Prop := ∃ get : Nat → Value, fr = ⟨43, get⟩ ∧ ∃ (b27 : Nat), Same H.next H G ∧ G.blk H.next = some (.cells (roomC r) 1) ∧ G.blk (H.next + 1) = some (.cells (spot a) 1) ∧ G.blk (H.next + 2) = some (.cells (spot b) 1) ∧ H.next + 3 ≤ G.next ∧ H.next + 3 ≤ b27 ∧ b27 < G.next ∧ G.blk b27 = some (.cells (spot a) 2) ∧ get 3 = .pointer (some ⟨H.next, 0, none⟩) ∧ get 4 = .pointer (some ⟨H.next + 1, 0, none⟩) ∧ get 5 = .pointer (some ⟨H.next + 2, 0, none⟩) ∧ get 23 = .agg (roomC r).toArray ∧ get 27 = .slice (some ⟨b27, 0, none⟩) 1 1
abbrev implWay14_J18 (r : Room) (a b : Spot) (H : AHeap) (fr : AFr) (G : AHeap) : Prop := ∃ get : Nat → Value, fr = ⟨43, get⟩ ∧ ∃ (b10 : Nat), Same H.next H G ∧ G.blk H.next = some (.cells (roomC r) 1) ∧ G.blk (H.next + 1) = some (.cells (spot a) 1) ∧ G.blk (H.next + 2) = some (.cells (spot b) 1) ∧ H.next + 3 ≤ G.next ∧ H.next + 3 ≤ b10 ∧ b10 < G.next ∧ G.blk b10 = some (.cells [.map none] 1) ∧ get 3 = .pointer (some ⟨H.next, 0, none⟩) ∧ get 4 = .pointer (some ⟨H.next + 1, 0, none⟩) ∧ get 5 = .pointer (some ⟨H.next + 2, 0, none⟩) ∧ get 23 = .agg (roomC r).toArray ∧ get 26 = .agg #[.int .i8 a.x, .int .i8 a.y] ∧ get 10 = .pointer (some ⟨b10, 0, none⟩)
abbrev implWay14_J19 (r : Room) (a b : Spot) (H : AHeap) (fr : AFr) (G : AHeap) : Prop := ∃ get : Nat → Value, fr = ⟨43, get⟩ ∧ ∃ (b27 : Nat), Same H.next H G ∧ G.blk H.next = some (.cells (roomC r) 1) ∧ G.blk (H.next + 1) = some (.cells (spot a) 1) ∧ G.blk (H.next + 2) = some (.cells (spot b) 1) ∧ H.next + 3 ≤ G.next ∧ H.next + 3 ≤ b27 ∧ b27 < G.next ∧ G.blk b27 = some (.cells (spot a) 2) ∧ get 3 = .pointer (some ⟨H.next, 0, none⟩) ∧ get 4 = .pointer (some ⟨H.next + 1, 0, none⟩) ∧ get 5 = .pointer (some ⟨H.next + 2, 0, none⟩) ∧ get 24 = .agg #[.int .i8 b.x, .int .i8 b.y] ∧ get 27 = .slice (some ⟨b27, 0, none⟩) 1 1
abbrev implWay14_J20 (r : Room) (a b : Spot) (H : AHeap) (fr : AFr) (G : AHeap) : Prop := ∃ get : Nat → Value, fr = ⟨43, get⟩ ∧ ∃ (b10 : Nat), Same H.next H G ∧ G.blk H.next = some (.cells (roomC r) 1) ∧ G.blk (H.next + 1) = some (.cells (spot a) 1) ∧ G.blk (H.next + 2) = some (.cells (spot b) 1) ∧ H.next + 3 ≤ G.next ∧ H.next + 3 ≤ b10 ∧ b10 < G.next ∧ G.blk b10 = some (.cells [.map none] 1) ∧ get 3 = .pointer (some ⟨H.next, 0, none⟩) ∧ get 4 = .pointer (some ⟨H.next + 1, 0, none⟩) ∧ get 5 = .pointer (some ⟨H.next + 2, 0, none⟩) ∧ get 24 = .agg #[.int .i8 b.x, .int .i8 b.y] ∧ get 26 = .agg #[.int .i8 a.x, .int .i8 a.y] ∧ get 10 = .pointer (some ⟨b10, 0, none⟩)
abbrev implWay14_J21 (r : Room) (a b : Spot) (H : AHeap) (fr : AFr) (G : AHeap) : Prop := ∃ get : Nat → Value, fr = ⟨43, get⟩ ∧ ∃ (b27 b10 : Nat), Same H.next H G ∧ G.blk H.next = some (.cells (roomC r) 1) ∧ G.blk (H.next + 1) = some (.cells (spot a) 1) ∧ G.blk (H.next + 2) = some (.cells (spot b) 1) ∧ H.next + 3 ≤ G.next ∧ H.next + 3 ≤ b27 ∧ b27 < G.next ∧ G.blk b27 = some (.cells (spot a) 2) ∧ H.next + 3 ≤ b10 ∧ b10 < G.next ∧ G.blk b10 = some (.cells [.map none] 1) ∧ b27 ≠ b10 ∧ get 3 = .pointer (some ⟨H.next, 0, none⟩) ∧ get 4 = .pointer (some ⟨H.next + 1, 0, none⟩) ∧ get 5 = .pointer (some ⟨H.next + 2, 0, none⟩) ∧ get 27 = .slice (some ⟨b27, 0, none⟩) 1 1 ∧ get 10 = .pointer (some ⟨b10, 0, none⟩)
abbrev implWay14_J22 (r : Room) (a b : Spot) (H : AHeap) (fr : AFr) (G : AHeap) : Prop := ∃ get : Nat → Value, fr = ⟨43, get⟩ ∧ Same H.next H G ∧ G.blk H.next = some (.cells (roomC r) 1) ∧ G.blk (H.next + 1) = some (.cells (spot a) 1) ∧ G.blk (H.next + 2) = some (.cells (spot b) 1) ∧ H.next + 3 ≤ G.next ∧ get 3 = .pointer (some ⟨H.next, 0, none⟩) ∧ get 4 = .pointer (some ⟨H.next + 1, 0, none⟩) ∧ get 5 = .pointer (some ⟨H.next + 2, 0, none⟩) ∧ get 23 = .agg (roomC r).toArray ∧ get 24 = .agg #[.int .i8 b.x, .int .i8 b.y]
abbrev implWay14_J23 (r : Room) (a b : Spot) (H : AHeap) (fr : AFr) (G : AHeap) : Prop := ∃ get : Nat → Value, fr = ⟨43, get⟩ ∧ Same H.next H G ∧ G.blk H.next = some (.cells (roomC r) 1) ∧ G.blk (H.next + 1) = some (.cells (spot a) 1) ∧ G.blk (H.next + 2) = some (.cells (spot b) 1) ∧ H.next + 3 ≤ G.next ∧ get 3 = .pointer (some ⟨H.next, 0, none⟩) ∧ get 4 = .pointer (some ⟨H.next + 1, 0, none⟩) ∧ get 5 = .pointer (some ⟨H.next + 2, 0, none⟩) ∧ get 23 = .agg (roomC r).toArray ∧ get 26 = .agg #[.int .i8 a.x, .int .i8 a.y]
abbrev implWay14_J24 (r : Room) (a b : Spot) (H : AHeap) (fr : AFr) (G : AHeap) : Prop := ∃ get : Nat → Value, fr = ⟨43, get⟩ ∧ ∃ (b10 : Nat), Same H.next H G ∧ G.blk H.next = some (.cells (roomC r) 1) ∧ G.blk (H.next + 1) = some (.cells (spot a) 1) ∧ G.blk (H.next + 2) = some (.cells (spot b) 1) ∧ H.next + 3 ≤ G.next ∧ H.next + 3 ≤ b10 ∧ b10 < G.next ∧ G.blk b10 = some (.cells [.map none] 1) ∧ get 3 = .pointer (some ⟨H.next, 0, none⟩) ∧ get 4 = .pointer (some ⟨H.next + 1, 0, none⟩) ∧ get 5 = .pointer (some ⟨H.next + 2, 0, none⟩) ∧ get 23 = .agg (roomC r).toArray ∧ get 10 = .pointer (some ⟨b10, 0, none⟩)
abbrev implWay14_J25 (r : Room) (a b : Spot) (H : AHeap) (fr : AFr) (G : AHeap) : Prop := ∃ get : Nat → Value, fr = ⟨43, get⟩ ∧ Same H.next H G ∧ G.blk H.next = some (.cells (roomC r) 1) ∧ G.blk (H.next + 1) = some (.cells (spot a) 1) ∧ G.blk (H.next + 2) = some (.cells (spot b) 1) ∧ H.next + 3 ≤ G.next ∧ get 3 = .pointer (some ⟨H.next, 0, none⟩) ∧ get 4 = .pointer (some ⟨H.next + 1, 0, none⟩) ∧ get 5 = .pointer (some ⟨H.next + 2, 0, none⟩) ∧ get 24 = .agg #[.int .i8 b.x, .int .i8 b.y] ∧ get 26 = .agg #[.int .i8 a.x, .int .i8 a.y]
abbrev implWay14_J26 (r : Room) (a b : Spot) (H : AHeap) (fr : AFr) (G : AHeap) : Prop := ∃ get : Nat → Value, fr = ⟨43, get⟩ ∧ ∃ (b10 : Nat), Same H.next H G ∧ G.blk H.next = some (.cells (roomC r) 1) ∧ G.blk (H.next + 1) = some (.cells (spot a) 1) ∧ G.blk (H.next + 2) = some (.cells (spot b) 1) ∧ H.next + 3 ≤ G.next ∧ H.next + 3 ≤ b10 ∧ b10 < G.next ∧ G.blk b10 = some (.cells [.map none] 1) ∧ get 3 = .pointer (some ⟨H.next, 0, none⟩) ∧ get 4 = .pointer (some ⟨H.next + 1, 0, none⟩) ∧ get 5 = .pointer (some ⟨H.next + 2, 0, none⟩) ∧ get 24 = .agg #[.int .i8 b.x, .int .i8 b.y] ∧ get 10 = .pointer (some ⟨b10, 0, none⟩)
abbrev implWay14_J27 (r : Room) (a b : Spot) (H : AHeap) (fr : AFr) (G : AHeap) : Prop := ∃ get : Nat → Value, fr = ⟨43, get⟩ ∧ ∃ (b27 : Nat), Same H.next H G ∧ G.blk H.next = some (.cells (roomC r) 1) ∧ G.blk (H.next + 1) = some (.cells (spot a) 1) ∧ G.blk (H.next + 2) = some (.cells (spot b) 1) ∧ H.next + 3 ≤ G.next ∧ H.next + 3 ≤ b27 ∧ b27 < G.next ∧ G.blk b27 = some (.cells (spot a) 2) ∧ get 3 = .pointer (some ⟨H.next, 0, none⟩) ∧ get 4 = .pointer (some ⟨H.next + 1, 0, none⟩) ∧ get 5 = .pointer (some ⟨H.next + 2, 0, none⟩) ∧ get 27 = .slice (some ⟨b27, 0, none⟩) 1 1
abbrev implWay14_J28 (r : Room) (a b : Spot) (H : AHeap) (fr : AFr) (G : AHeap) : Prop := ∃ get : Nat → Value, fr = ⟨43, get⟩ ∧ ∃ (b10 : Nat), Same H.next H G ∧ G.blk H.next = some (.cells (roomC r) 1) ∧ G.blk (H.next + 1) = some (.cells (spot a) 1) ∧ G.blk (H.next + 2) = some (.cells (spot b) 1) ∧ H.next + 3 ≤ G.next ∧ H.next + 3 ≤ b10 ∧ b10 < G.next ∧ G.blk b10 = some (.cells [.map none] 1) ∧ get 3 = .pointer (some ⟨H.next, 0, none⟩) ∧ get 4 = .pointer (some ⟨H.next + 1, 0, none⟩) ∧ get 5 = .pointer (some ⟨H.next + 2, 0, none⟩) ∧ get 26 = .agg #[.int .i8 a.x, .int .i8 a.y] ∧ get 10 = .pointer (some ⟨b10, 0, none⟩)
abbrev implWay14_J29 (r : Room) (a b : Spot) (H : AHeap) (fr : AFr) (G : AHeap) : Prop := ∃ get : Nat → Value, fr = ⟨43, get⟩ ∧ Same H.next H G ∧ G.blk H.next = some (.cells (roomC r) 1) ∧ G.blk (H.next + 1) = some (.cells (spot a) 1) ∧ G.blk (H.next + 2) = some (.cells (spot b) 1) ∧ H.next + 3 ≤ G.next ∧ get 3 = .pointer (some ⟨H.next, 0, none⟩) ∧ get 4 = .pointer (some ⟨H.next + 1, 0, none⟩) ∧ get 5 = .pointer (some ⟨H.next + 2, 0, none⟩) ∧ get 23 = .agg (roomC r).toArray
abbrev implWay14_J30 (r : Room) (a b : Spot) (H : AHeap) (fr : AFr) (G : AHeap) : Prop := ∃ get : Nat → Value, fr = ⟨43, get⟩ ∧ Same H.next H G ∧ G.blk H.next = some (.cells (roomC r) 1) ∧ G.blk (H.next + 1) = some (.cells (spot a) 1) ∧ G.blk (H.next + 2) = some (.cells (spot b) 1) ∧ H.next + 3 ≤ G.next ∧ get 3 = .pointer (some ⟨H.next, 0, none⟩) ∧ get 4 = .pointer (some ⟨H.next + 1, 0, none⟩) ∧ get 5 = .pointer (some ⟨H.next + 2, 0, none⟩) ∧ get 24 = .agg #[.int .i8 b.x, .int .i8 b.y]
abbrev implWay14_J31 (r : Room) (a b : Spot) (H : AHeap) (fr : AFr) (G : AHeap) : Prop := ∃ get : Nat → Value, fr = ⟨43, get⟩ ∧ Same H.next H G ∧ G.blk H.next = some (.cells (roomC r) 1) ∧ G.blk (H.next + 1) = some (.cells (spot a) 1) ∧ G.blk (H.next + 2) = some (.cells (spot b) 1) ∧ H.next + 3 ≤ G.next ∧ get 3 = .pointer (some ⟨H.next, 0, none⟩) ∧ get 4 = .pointer (some ⟨H.next + 1, 0, none⟩) ∧ get 5 = .pointer (some ⟨H.next + 2, 0, none⟩) ∧ get 26 = .agg #[.int .i8 a.x, .int .i8 a.y]
abbrev implWay14_J32 (r : Room) (a b : Spot) (H : AHeap) (fr : AFr) (G : AHeap) : Prop := ∃ get : Nat → Value, fr = ⟨43, get⟩ ∧ ∃ (b10 : Nat), Same H.next H G ∧ G.blk H.next = some (.cells (roomC r) 1) ∧ G.blk (H.next + 1) = some (.cells (spot a) 1) ∧ G.blk (H.next + 2) = some (.cells (spot b) 1) ∧ H.next + 3 ≤ G.next ∧ H.next + 3 ≤ b10 ∧ b10 < G.next ∧ G.blk b10 = some (.cells [.map none] 1) ∧ get 3 = .pointer (some ⟨H.next, 0, none⟩) ∧ get 4 = .pointer (some ⟨H.next + 1, 0, none⟩) ∧ get 5 = .pointer (some ⟨H.next + 2, 0, none⟩) ∧ get 10 = .pointer (some ⟨b10, 0, none⟩)
abbrev implWay14_J33 (r : Room) (a b : Spot) (H : AHeap) (fr : AFr) (G : AHeap) : Prop := ∃ get : Nat → Value, fr = ⟨43, get⟩ ∧ Same H.next H G ∧ G.blk H.next = some (.cells (roomC r) 1) ∧ G.blk (H.next + 1) = some (.cells (spot a) 1) ∧ G.blk (H.next + 2) = some (.cells (spot b) 1) ∧ H.next + 3 ≤ G.next ∧ get 3 = .pointer (some ⟨H.next, 0, none⟩) ∧ get 4 = .pointer (some ⟨H.next + 1, 0, none⟩) ∧ get 5 = .pointer (some ⟨H.next + 2, 0, none⟩)
set_option maxHeartbeats 4000000 in
theorem implWay14_st_0 {r : Room} {a b : Spot} {H : AHeap} {Q : Exit → AFr → AHeap → Prop} (hw : wfRoom r) (hwb : wfSpot b) (hfb : isFree r b) (hp : ∀ c fr G, ¬ Q (.panic c) fr G) (hfin : ∀ fr G, implWay14_J0 r a b H fr G → Q .normal fr G) : ∀ fr G, implWay14_J0 r a b H fr G → AA Try.prog ops_implWay14 Q 0 implWay14_l0 fr G := by
  exact fun fr G h => aa_done (by kernel_rfl) (hfin fr G h)
set_option maxHeartbeats 4000000 in
theorem implWay14_st_1 {r : Room} {a b : Spot} {H : AHeap} {Q : Exit → AFr → AHeap → Prop} (hw : wfRoom r) (hwb : wfSpot b) (hfb : isFree r b) (hp : ∀ c fr G, ¬ Q (.panic c) fr G) (hfin : ∀ fr G, implWay14_J0 r a b H fr G → Q .normal fr G) : ∀ fr G, implWay14_J1 r a b H fr G → AA Try.prog ops_implWay14 Q 1 implWay14_l1 fr G := by
  rintro fr G ⟨get, rfl, b25, b27, b10, hk0, hk1, hk2, hk3, hn, hl25, hu25, hc25, hl27, hu27, hc27, hl10, hu10, hc10, he25_27, he25_10, he27_10, g3, g4, g5, g27, g10⟩
  refine aa_slot (d := 3) (v := .pointer (some ⟨H.next, 0, none⟩)) g3 ?_
  refine aa_slot (d := 4) (v := .pointer (some ⟨H.next + 1, 0, none⟩)) g4 ?_
  refine aa_slot (d := 5) (v := .pointer (some ⟨H.next + 2, 0, none⟩)) g5 ?_
  refine aa_slot (d := 27) (v := .slice (some ⟨b27, 0, none⟩) 1 1) g27 ?_
  refine aa_slot (d := 10) (v := .pointer (some ⟨b10, 0, none⟩)) g10 ?_
  refine aax1 (i := 7) (by kernel_rfl) ?_
  · exact aa_oL (listed' := implWay14_l0) rfl rfl rfl rfl (by kernel_rfl) (ao_as (v := .slice _ _ _) rfl) (implWay14_st_0 hw hwb hfb hp hfin _ _ ⟨_, rfl, b25, b27, b10, hk0, hk1, hk2, hk3, hn, hl25, hu25, hc25, hl27, hu27, hc27, hl10, hu10, hc10, he25_27, he25_10, he27_10, rfl, rfl, rfl, rfl, rfl⟩)
set_option maxHeartbeats 4000000 in
theorem implWay14_st_2 {r : Room} {a b : Spot} {H : AHeap} {Q : Exit → AFr → AHeap → Prop} (hw : wfRoom r) (hwb : wfSpot b) (hfb : isFree r b) (hp : ∀ c fr G, ¬ Q (.panic c) fr G) (hfin : ∀ fr G, implWay14_J0 r a b H fr G → Q .normal fr G) : ∀ fr G, implWay14_J2 r a b H fr G → AA Try.prog ops_implWay14 Q 2 implWay14_l2 fr G := by
  rintro fr G ⟨get, rfl, b25, b27, b10, hk0, hk1, hk2, hk3, hn, hl25, hu25, hc25, hl27, hu27, hc27, hl10, hu10, hc10, he25_27, he25_10, he27_10, g3, g4, g5, g25, g27, g10⟩
  refine aa_slot (d := 3) (v := .pointer (some ⟨H.next, 0, none⟩)) g3 ?_
  refine aa_slot (d := 4) (v := .pointer (some ⟨H.next + 1, 0, none⟩)) g4 ?_
  refine aa_slot (d := 5) (v := .pointer (some ⟨H.next + 2, 0, none⟩)) g5 ?_
  refine aa_slot (d := 25) (v := .map (some b25)) g25 ?_
  refine aa_slot (d := 27) (v := .slice (some ⟨b27, 0, none⟩) 1 1) g27 ?_
  refine aa_slot (d := 10) (v := .pointer (some ⟨b10, 0, none⟩)) g10 ?_
  refine aax1 (i := 6) (by kernel_rfl) ?_
  · exact aa_oL (listed' := implWay14_l1) rfl rfl rfl rfl (by kernel_rfl) ((ao_store1 (v := .map _) Try.sizeOf60 (by rfl) (by rfl) (by exact HLp) (by rfl) (by exact LTp)).to (SetR.eq (by exact SRp))) (implWay14_st_1 hw hwb hfb hp hfin _ _ ⟨_, rfl, b25, b27, b10, hk0.set (by omega) _, (blk_set_ne (by omega)).trans hk1, (blk_set_ne (by omega)).trans hk2, (blk_set_ne (by omega)).trans hk3, hn, hl25, hu25, (blk_set_ne he25_10).trans hc25, hl27, hu27, (blk_set_ne he27_10).trans hc27, hl10, hu10, blk_set_same hc10, he25_27, he25_10, he27_10, rfl, rfl, rfl, rfl, rfl⟩)
set_option maxHeartbeats 4000000 in
theorem implWay14_st_3 {r : Room} {a b : Spot} {H : AHeap} {Q : Exit → AFr → AHeap → Prop} (hw : wfRoom r) (hwb : wfSpot b) (hfb : isFree r b) (hp : ∀ c fr G, ¬ Q (.panic c) fr G) (hfin : ∀ fr G, implWay14_J0 r a b H fr G → Q .normal fr G) : ∀ fr G, implWay14_J3 r a b H fr G → AA Try.prog ops_implWay14 Q 2 implWay14_l3 fr G := by
  rintro fr G ⟨get, rfl, b25, b10, hk0, hk1, hk2, hk3, hn, hl25, hu25, hc25, hl10, hu10, hc10, he25_10, g3, g4, g5, g26, g10⟩
  refine aa_slot (d := 3) (v := .pointer (some ⟨H.next, 0, none⟩)) g3 ?_
  refine aa_slot (d := 4) (v := .pointer (some ⟨H.next + 1, 0, none⟩)) g4 ?_
  refine aa_slot (d := 5) (v := .pointer (some ⟨H.next + 2, 0, none⟩)) g5 ?_
  refine aa_slot (d := 26) (v := .agg #[.int .i8 a.x, .int .i8 a.y]) g26 ?_
  refine aa_slot (d := 10) (v := .pointer (some ⟨b10, 0, none⟩)) g10 ?_
  refine aax1 (i := 4) (by kernel_rfl) ?_
  · exact aa_oL (listed' := implWay14_l1) rfl rfl rfl rfl (by kernel_rfl) (ao_lit1 (v := .agg _) Try.underlying35 Try.sizeOf31 Try.zeroValue31 (by rfl) (by rfl) rfl rfl (by rfl) (by exact RFp)) (implWay14_st_1 hw hwb hfb hp hfin _ _ ⟨_, rfl, b25, G.next, b10, hk0.push (by omega) _, blk_push_old hk1, blk_push_old hk2, blk_push_old hk3, Nat.le_succ_of_le hn, hl25, Nat.lt_succ_of_lt hu25, blk_push_old hc25, hn, Nat.lt_succ_self _, blk_push_new _ _, hl10, Nat.lt_succ_of_lt hu10, blk_push_old hc10, Nat.ne_of_lt hu25, he25_10, (Nat.ne_of_gt hu10), rfl, rfl, rfl, rfl, rfl⟩)
set_option maxHeartbeats 4000000 in
theorem implWay14_st_4 {r : Room} {a b : Spot} {H : AHeap} {Q : Exit → AFr → AHeap → Prop} (hw : wfRoom r) (hwb : wfSpot b) (hfb : isFree r b) (hp : ∀ c fr G, ¬ Q (.panic c) fr G) (hfin : ∀ fr G, implWay14_J0 r a b H fr G → Q .normal fr G) : ∀ fr G, implWay14_J4 r a b H fr G → AA Try.prog ops_implWay14 Q 3 implWay14_l4 fr G := by
  rintro fr G ⟨get, rfl, b25, b27, hk0, hk1, hk2, hk3, hn, hl25, hu25, hc25, hl27, hu27, hc27, he25_27, g3, g4, g5, g25, g27⟩
  refine aa_slot (d := 3) (v := .pointer (some ⟨H.next, 0, none⟩)) g3 ?_
  refine aa_slot (d := 4) (v := .pointer (some ⟨H.next + 1, 0, none⟩)) g4 ?_
  refine aa_slot (d := 5) (v := .pointer (some ⟨H.next + 2, 0, none⟩)) g5 ?_
  refine aa_slot (d := 25) (v := .map (some b25)) g25 ?_
  refine aa_slot (d := 27) (v := .slice (some ⟨b27, 0, none⟩) 1 1) g27 ?_
  refine aax1 (i := 5) (by kernel_rfl) ?_
  · exact aa_oL (listed' := implWay14_l2) rfl rfl rfl rfl (by kernel_rfl) (ao_alloc1 Try.zeroValue60 rfl rfl) (implWay14_st_2 hw hwb hfb hp hfin _ _ ⟨_, rfl, b25, b27, G.next, hk0.push (by omega) _, blk_push_old hk1, blk_push_old hk2, blk_push_old hk3, Nat.le_succ_of_le hn, hl25, Nat.lt_succ_of_lt hu25, blk_push_old hc25, hl27, Nat.lt_succ_of_lt hu27, blk_push_old hc27, hn, Nat.lt_succ_self _, blk_push_new _ _, he25_27, Nat.ne_of_lt hu25, Nat.ne_of_lt hu27, rfl, rfl, rfl, rfl, rfl, rfl⟩)
set_option maxHeartbeats 4000000 in
theorem implWay14_st_5 {r : Room} {a b : Spot} {H : AHeap} {Q : Exit → AFr → AHeap → Prop} (hw : wfRoom r) (hwb : wfSpot b) (hfb : isFree r b) (hp : ∀ c fr G, ¬ Q (.panic c) fr G) (hfin : ∀ fr G, implWay14_J0 r a b H fr G → Q .normal fr G) : ∀ fr G, implWay14_J5 r a b H fr G → AA Try.prog ops_implWay14 Q 3 implWay14_l5 fr G := by
  rintro fr G ⟨get, rfl, b25, b10, hk0, hk1, hk2, hk3, hn, hl25, hu25, hc25, hl10, hu10, hc10, he25_10, g3, g4, g5, g25, g26, g10⟩
  refine aa_slot (d := 3) (v := .pointer (some ⟨H.next, 0, none⟩)) g3 ?_
  refine aa_slot (d := 4) (v := .pointer (some ⟨H.next + 1, 0, none⟩)) g4 ?_
  refine aa_slot (d := 5) (v := .pointer (some ⟨H.next + 2, 0, none⟩)) g5 ?_
  refine aa_slot (d := 25) (v := .map (some b25)) g25 ?_
  refine aa_slot (d := 26) (v := .agg #[.int .i8 a.x, .int .i8 a.y]) g26 ?_
  refine aa_slot (d := 10) (v := .pointer (some ⟨b10, 0, none⟩)) g10 ?_
  refine aax2 (i := 4) (j := 6) (by kernel_rfl) ?_ ?_
  · exact aa_oL (listed' := implWay14_l2) rfl rfl rfl rfl (by kernel_rfl) (ao_lit1 (v := .agg _) Try.underlying35 Try.sizeOf31 Try.zeroValue31 (by rfl) (by rfl) rfl rfl (by rfl) (by exact RFp)) (implWay14_st_2 hw hwb hfb hp hfin _ _ ⟨_, rfl, b25, G.next, b10, hk0.push (by omega) _, blk_push_old hk1, blk_push_old hk2, blk_push_old hk3, Nat.le_succ_of_le hn, hl25, Nat.lt_succ_of_lt hu25, blk_push_old hc25, hn, Nat.lt_succ_self _, blk_push_new _ _, hl10, Nat.lt_succ_of_lt hu10, blk_push_old hc10, Nat.ne_of_lt hu25, he25_10, (Nat.ne_of_gt hu10), rfl, rfl, rfl, rfl, rfl, rfl⟩)
  · exact aa_oL (listed' := implWay14_l3) rfl rfl rfl rfl (by kernel_rfl) ((ao_store1 (v := .map _) Try.sizeOf60 (by rfl) (by rfl) (by exact HLp) (by rfl) (by exact LTp)).to (SetR.eq (by exact SRp))) (implWay14_st_3 hw hwb hfb hp hfin _ _ ⟨_, rfl, b25, b10, hk0.set (by omega) _, (blk_set_ne (by omega)).trans hk1, (blk_set_ne (by omega)).trans hk2, (blk_set_ne (by omega)).trans hk3, hn, hl25, hu25, (blk_set_ne he25_10).trans hc25, hl10, hu10, blk_set_same hc10, he25_10, rfl, rfl, rfl, rfl, rfl⟩)
set_option maxHeartbeats 4000000 in
theorem implWay14_st_6 {r : Room} {a b : Spot} {H : AHeap} {Q : Exit → AFr → AHeap → Prop} (hw : wfRoom r) (hwb : wfSpot b) (hfb : isFree r b) (hp : ∀ c fr G, ¬ Q (.panic c) fr G) (hfin : ∀ fr G, implWay14_J0 r a b H fr G → Q .normal fr G) : ∀ fr G, implWay14_J6 r a b H fr G → AA Try.prog ops_implWay14 Q 3 implWay14_l6 fr G := by
  rintro fr G ⟨get, rfl, b25, b10, hk0, hk1, hk2, hk3, hn, hl25, hu25, hc25, hl10, hu10, hc10, he25_10, g3, g4, g5, g10⟩
  refine aa_slot (d := 3) (v := .pointer (some ⟨H.next, 0, none⟩)) g3 ?_
  refine aa_slot (d := 4) (v := .pointer (some ⟨H.next + 1, 0, none⟩)) g4 ?_
  refine aa_slot (d := 5) (v := .pointer (some ⟨H.next + 2, 0, none⟩)) g5 ?_
  refine aa_slot (d := 10) (v := .pointer (some ⟨b10, 0, none⟩)) g10 ?_
  refine aax1 (i := 3) (by kernel_rfl) ?_
  · exact aa_oL (listed' := implWay14_l3) rfl rfl rfl rfl (by kernel_rfl) (ao_loada Try.isAgg31 Try.sizeOf31 rfl (by exact HLp) (by rfl) (by exact RFp)) (implWay14_st_3 hw hwb hfb hp hfin _ _ ⟨_, rfl, b25, b10, hk0, hk1, hk2, hk3, hn, hl25, hu25, hc25, hl10, hu10, hc10, he25_10, rfl, rfl, rfl, rfl, rfl⟩)
set_option maxHeartbeats 4000000 in
theorem implWay14_st_7 {r : Room} {a b : Spot} {H : AHeap} {Q : Exit → AFr → AHeap → Prop} (hw : wfRoom r) (hwb : wfSpot b) (hfb : isFree r b) (hp : ∀ c fr G, ¬ Q (.panic c) fr G) (hfin : ∀ fr G, implWay14_J0 r a b H fr G → Q .normal fr G) : ∀ fr G, implWay14_J7 r a b H fr G → AA Try.prog ops_implWay14 Q 3 implWay14_l7 fr G := by
  rintro fr G ⟨get, rfl, b27, b10, hk0, hk1, hk2, hk3, hn, hl27, hu27, hc27, hl10, hu10, hc10, he27_10, g3, g4, g5, g23, g24, g27, g10⟩
  refine aa_slot (d := 3) (v := .pointer (some ⟨H.next, 0, none⟩)) g3 ?_
  refine aa_slot (d := 4) (v := .pointer (some ⟨H.next + 1, 0, none⟩)) g4 ?_
  refine aa_slot (d := 5) (v := .pointer (some ⟨H.next + 2, 0, none⟩)) g5 ?_
  refine aa_slot (d := 23) (v := .agg (roomC r).toArray) g23 ?_
  refine aa_slot (d := 24) (v := .agg #[.int .i8 b.x, .int .i8 b.y]) g24 ?_
  refine aa_slot (d := 27) (v := .slice (some ⟨b27, 0, none⟩) 1 1) g27 ?_
  refine aa_slot (d := 10) (v := .pointer (some ⟨b10, 0, none⟩)) g10 ?_
  refine aax1 (i := 2) (by kernel_rfl) ?_
  · exact aa_oL (listed' := implWay14_l2) rfl rfl rfl rfl (by kernel_rfl) (ao_calld (implSteps_c (r := r) (s := b) hw hwb hfb) Try.call30 rfl rfl) (implWay14_st_2 hw hwb hfb hp hfin _ _ ⟨_, rfl, G.next, b27, b10, hk0.push (by omega) _, blk_push_old hk1, blk_push_old hk2, blk_push_old hk3, Nat.le_succ_of_le hn, hn, Nat.lt_succ_self _, blk_push_new _ _, hl27, Nat.lt_succ_of_lt hu27, blk_push_old hc27, hl10, Nat.lt_succ_of_lt hu10, blk_push_old hc10, (Nat.ne_of_gt hu27), (Nat.ne_of_gt hu10), he27_10, rfl, rfl, rfl, rfl, rfl, rfl⟩)
set_option maxHeartbeats 4000000 in
theorem implWay14_st_8 {r : Room} {a b : Spot} {H : AHeap} {Q : Exit → AFr → AHeap → Prop} (hw : wfRoom r) (hwb : wfSpot b) (hfb : isFree r b) (hp : ∀ c fr G, ¬ Q (.panic c) fr G) (hfin : ∀ fr G, implWay14_J0 r a b H fr G → Q .normal fr G) : ∀ fr G, implWay14_J8 r a b H fr G → AA Try.prog ops_implWay14 Q 4 implWay14_l8 fr G := by
  rintro fr G ⟨get, rfl, b25, hk0, hk1, hk2, hk3, hn, hl25, hu25, hc25, g3, g4, g5, g25, g26⟩
  refine aa_slot (d := 3) (v := .pointer (some ⟨H.next, 0, none⟩)) g3 ?_
  refine aa_slot (d := 4) (v := .pointer (some ⟨H.next + 1, 0, none⟩)) g4 ?_
  refine aa_slot (d := 5) (v := .pointer (some ⟨H.next + 2, 0, none⟩)) g5 ?_
  refine aa_slot (d := 25) (v := .map (some b25)) g25 ?_
  refine aa_slot (d := 26) (v := .agg #[.int .i8 a.x, .int .i8 a.y]) g26 ?_
  refine aax2 (i := 4) (j := 5) (by kernel_rfl) ?_ ?_
  · exact aa_oL (listed' := implWay14_l4) rfl rfl rfl rfl (by kernel_rfl) (ao_lit1 (v := .agg _) Try.underlying35 Try.sizeOf31 Try.zeroValue31 (by rfl) (by rfl) rfl rfl (by rfl) (by exact RFp)) (implWay14_st_4 hw hwb hfb hp hfin _ _ ⟨_, rfl, b25, G.next, hk0.push (by omega) _, blk_push_old hk1, blk_push_old hk2, blk_push_old hk3, Nat.le_succ_of_le hn, hl25, Nat.lt_succ_of_lt hu25, blk_push_old hc25, hn, Nat.lt_succ_self _, blk_push_new _ _, Nat.ne_of_lt hu25, rfl, rfl, rfl, rfl, rfl⟩)
  · exact aa_oL (listed' := implWay14_l5) rfl rfl rfl rfl (by kernel_rfl) (ao_alloc1 Try.zeroValue60 rfl rfl) (implWay14_st_5 hw hwb hfb hp hfin _ _ ⟨_, rfl, b25, G.next, hk0.push (by omega) _, blk_push_old hk1, blk_push_old hk2, blk_push_old hk3, Nat.le_succ_of_le hn, hl25, Nat.lt_succ_of_lt hu25, blk_push_old hc25, hn, Nat.lt_succ_self _, blk_push_new _ _, Nat.ne_of_lt hu25, rfl, rfl, rfl, rfl, rfl, rfl⟩)
set_option maxHeartbeats 4000000 in
theorem implWay14_st_9 {r : Room} {a b : Spot} {H : AHeap} {Q : Exit → AFr → AHeap → Prop} (hw : wfRoom r) (hwb : wfSpot b) (hfb : isFree r b) (hp : ∀ c fr G, ¬ Q (.panic c) fr G) (hfin : ∀ fr G, implWay14_J0 r a b H fr G → Q .normal fr G) : ∀ fr G, implWay14_J9 r a b H fr G → AA Try.prog ops_implWay14 Q 4 implWay14_l9 fr G := by
  rintro fr G ⟨get, rfl, b25, b10, hk0, hk1, hk2, hk3, hn, hl25, hu25, hc25, hl10, hu10, hc10, he25_10, g3, g4, g5, g25, g10⟩
  refine aa_slot (d := 3) (v := .pointer (some ⟨H.next, 0, none⟩)) g3 ?_
  refine aa_slot (d := 4) (v := .pointer (some ⟨H.next + 1, 0, none⟩)) g4 ?_
  refine aa_slot (d := 5) (v := .pointer (some ⟨H.next + 2, 0, none⟩)) g5 ?_
  refine aa_slot (d := 25) (v := .map (some b25)) g25 ?_
  refine aa_slot (d := 10) (v := .pointer (some ⟨b10, 0, none⟩)) g10 ?_
  refine aax2 (i := 3) (j := 6) (by kernel_rfl) ?_ ?_
  · exact aa_oL (listed' := implWay14_l5) rfl rfl rfl rfl (by kernel_rfl) (ao_loada Try.isAgg31 Try.sizeOf31 rfl (by exact HLp) (by rfl) (by exact RFp)) (implWay14_st_5 hw hwb hfb hp hfin _ _ ⟨_, rfl, b25, b10, hk0, hk1, hk2, hk3, hn, hl25, hu25, hc25, hl10, hu10, hc10, he25_10, rfl, rfl, rfl, rfl, rfl, rfl⟩)
  · exact aa_oL (listed' := implWay14_l6) rfl rfl rfl rfl (by kernel_rfl) ((ao_store1 (v := .map _) Try.sizeOf60 (by rfl) (by rfl) (by exact HLp) (by rfl) (by exact LTp)).to (SetR.eq (by exact SRp))) (implWay14_st_6 hw hwb hfb hp hfin _ _ ⟨_, rfl, b25, b10, hk0.set (by omega) _, (blk_set_ne (by omega)).trans hk1, (blk_set_ne (by omega)).trans hk2, (blk_set_ne (by omega)).trans hk3, hn, hl25, hu25, (blk_set_ne he25_10).trans hc25, hl10, hu10, blk_set_same hc10, he25_10, rfl, rfl, rfl, rfl⟩)
set_option maxHeartbeats 4000000 in
theorem implWay14_st_10 {r : Room} {a b : Spot} {H : AHeap} {Q : Exit → AFr → AHeap → Prop} (hw : wfRoom r) (hwb : wfSpot b) (hfb : isFree r b) (hp : ∀ c fr G, ¬ Q (.panic c) fr G) (hfin : ∀ fr G, implWay14_J0 r a b H fr G → Q .normal fr G) : ∀ fr G, implWay14_J10 r a b H fr G → AA Try.prog ops_implWay14 Q 4 implWay14_l10 fr G := by
  rintro fr G ⟨get, rfl, b27, hk0, hk1, hk2, hk3, hn, hl27, hu27, hc27, g3, g4, g5, g23, g24, g27⟩
  refine aa_slot (d := 3) (v := .pointer (some ⟨H.next, 0, none⟩)) g3 ?_
  refine aa_slot (d := 4) (v := .pointer (some ⟨H.next + 1, 0, none⟩)) g4 ?_
  refine aa_slot (d := 5) (v := .pointer (some ⟨H.next + 2, 0, none⟩)) g5 ?_
  refine aa_slot (d := 23) (v := .agg (roomC r).toArray) g23 ?_
  refine aa_slot (d := 24) (v := .agg #[.int .i8 b.x, .int .i8 b.y]) g24 ?_
  refine aa_slot (d := 27) (v := .slice (some ⟨b27, 0, none⟩) 1 1) g27 ?_
  refine aax2 (i := 2) (j := 5) (by kernel_rfl) ?_ ?_
  · exact aa_oL (listed' := implWay14_l4) rfl rfl rfl rfl (by kernel_rfl) (ao_calld (implSteps_c (r := r) (s := b) hw hwb hfb) Try.call30 rfl rfl) (implWay14_st_4 hw hwb hfb hp hfin _ _ ⟨_, rfl, G.next, b27, hk0.push (by omega) _, blk_push_old hk1, blk_push_old hk2, blk_push_old hk3, Nat.le_succ_of_le hn, hn, Nat.lt_succ_self _, blk_push_new _ _, hl27, Nat.lt_succ_of_lt hu27, blk_push_old hc27, (Nat.ne_of_gt hu27), rfl, rfl, rfl, rfl, rfl⟩)
  · exact aa_oL (listed' := implWay14_l7) rfl rfl rfl rfl (by kernel_rfl) (ao_alloc1 Try.zeroValue60 rfl rfl) (implWay14_st_7 hw hwb hfb hp hfin _ _ ⟨_, rfl, b27, G.next, hk0.push (by omega) _, blk_push_old hk1, blk_push_old hk2, blk_push_old hk3, Nat.le_succ_of_le hn, hl27, Nat.lt_succ_of_lt hu27, blk_push_old hc27, hn, Nat.lt_succ_self _, blk_push_new _ _, Nat.ne_of_lt hu27, rfl, rfl, rfl, rfl, rfl, rfl, rfl⟩)
set_option maxHeartbeats 4000000 in
theorem implWay14_st_11 {r : Room} {a b : Spot} {H : AHeap} {Q : Exit → AFr → AHeap → Prop} (hw : wfRoom r) (hwb : wfSpot b) (hfb : isFree r b) (hp : ∀ c fr G, ¬ Q (.panic c) fr G) (hfin : ∀ fr G, implWay14_J0 r a b H fr G → Q .normal fr G) : ∀ fr G, implWay14_J11 r a b H fr G → AA Try.prog ops_implWay14 Q 4 implWay14_l11 fr G := by
  rintro fr G ⟨get, rfl, b10, hk0, hk1, hk2, hk3, hn, hl10, hu10, hc10, g3, g4, g5, g23, g24, g26, g10⟩
  refine aa_slot (d := 3) (v := .pointer (some ⟨H.next, 0, none⟩)) g3 ?_
  refine aa_slot (d := 4) (v := .pointer (some ⟨H.next + 1, 0, none⟩)) g4 ?_
  refine aa_slot (d := 5) (v := .pointer (some ⟨H.next + 2, 0, none⟩)) g5 ?_
  refine aa_slot (d := 23) (v := .agg (roomC r).toArray) g23 ?_
  refine aa_slot (d := 24) (v := .agg #[.int .i8 b.x, .int .i8 b.y]) g24 ?_
  refine aa_slot (d := 26) (v := .agg #[.int .i8 a.x, .int .i8 a.y]) g26 ?_
  refine aa_slot (d := 10) (v := .pointer (some ⟨b10, 0, none⟩)) g10 ?_
  refine aax2 (i := 2) (j := 4) (by kernel_rfl) ?_ ?_
  · exact aa_oL (listed' := implWay14_l5) rfl rfl rfl rfl (by kernel_rfl) (ao_calld (implSteps_c (r := r) (s := b) hw hwb hfb) Try.call30 rfl rfl) (implWay14_st_5 hw hwb hfb hp hfin _ _ ⟨_, rfl, G.next, b10, hk0.push (by omega) _, blk_push_old hk1, blk_push_old hk2, blk_push_old hk3, Nat.le_succ_of_le hn, hn, Nat.lt_succ_self _, blk_push_new _ _, hl10, Nat.lt_succ_of_lt hu10, blk_push_old hc10, (Nat.ne_of_gt hu10), rfl, rfl, rfl, rfl, rfl, rfl⟩)
  · exact aa_oL (listed' := implWay14_l7) rfl rfl rfl rfl (by kernel_rfl) (ao_lit1 (v := .agg _) Try.underlying35 Try.sizeOf31 Try.zeroValue31 (by rfl) (by rfl) rfl rfl (by rfl) (by exact RFp)) (implWay14_st_7 hw hwb hfb hp hfin _ _ ⟨_, rfl, G.next, b10, hk0.push (by omega) _, blk_push_old hk1, blk_push_old hk2, blk_push_old hk3, Nat.le_succ_of_le hn, hn, Nat.lt_succ_self _, blk_push_new _ _, hl10, Nat.lt_succ_of_lt hu10, blk_push_old hc10, (Nat.ne_of_gt hu10), rfl, rfl, rfl, rfl, rfl, rfl, rfl⟩)
set_option maxHeartbeats 4000000 in
theorem implWay14_st_12 {r : Room} {a b : Spot} {H : AHeap} {Q : Exit → AFr → AHeap → Prop} (hw : wfRoom r) (hwb : wfSpot b) (hfb : isFree r b) (hp : ∀ c fr G, ¬ Q (.panic c) fr G) (hfin : ∀ fr G, implWay14_J0 r a b H fr G → Q .normal fr G) : ∀ fr G, implWay14_J12 r a b H fr G → AA Try.prog ops_implWay14 Q 4 implWay14_l12 fr G := by
  rintro fr G ⟨get, rfl, b27, b10, hk0, hk1, hk2, hk3, hn, hl27, hu27, hc27, hl10, hu10, hc10, he27_10, g3, g4, g5, g23, g27, g10⟩
  refine aa_slot (d := 3) (v := .pointer (some ⟨H.next, 0, none⟩)) g3 ?_
  refine aa_slot (d := 4) (v := .pointer (some ⟨H.next + 1, 0, none⟩)) g4 ?_
  refine aa_slot (d := 5) (v := .pointer (some ⟨H.next + 2, 0, none⟩)) g5 ?_
  refine aa_slot (d := 23) (v := .agg (roomC r).toArray) g23 ?_
  refine aa_slot (d := 27) (v := .slice (some ⟨b27, 0, none⟩) 1 1) g27 ?_
  refine aa_slot (d := 10) (v := .pointer (some ⟨b10, 0, none⟩)) g10 ?_
  refine aax1 (i := 1) (by kernel_rfl) ?_
  · exact aa_oL (listed' := implWay14_l7) rfl rfl rfl rfl (by kernel_rfl) (ao_loada Try.isAgg31 Try.sizeOf31 rfl (by exact HLp) (by rfl) (by exact RFp)) (implWay14_st_7 hw hwb hfb hp hfin _ _ ⟨_, rfl, b27, b10, hk0, hk1, hk2, hk3, hn, hl27, hu27, hc27, hl10, hu10, hc10, he27_10, rfl, rfl, rfl, rfl, rfl, rfl, rfl⟩)
set_option maxHeartbeats 4000000 in
theorem implWay14_st_13 {r : Room} {a b : Spot} {H : AHeap} {Q : Exit → AFr → AHeap → Prop} (hw : wfRoom r) (hwb : wfSpot b) (hfb : isFree r b) (hp : ∀ c fr G, ¬ Q (.panic c) fr G) (hfin : ∀ fr G, implWay14_J0 r a b H fr G → Q .normal fr G) : ∀ fr G, implWay14_J13 r a b H fr G → AA Try.prog ops_implWay14 Q 4 implWay14_l13 fr G := by
  rintro fr G ⟨get, rfl, b27, b10, hk0, hk1, hk2, hk3, hn, hl27, hu27, hc27, hl10, hu10, hc10, he27_10, g3, g4, g5, g24, g27, g10⟩
  refine aa_slot (d := 3) (v := .pointer (some ⟨H.next, 0, none⟩)) g3 ?_
  refine aa_slot (d := 4) (v := .pointer (some ⟨H.next + 1, 0, none⟩)) g4 ?_
  refine aa_slot (d := 5) (v := .pointer (some ⟨H.next + 2, 0, none⟩)) g5 ?_
  refine aa_slot (d := 24) (v := .agg #[.int .i8 b.x, .int .i8 b.y]) g24 ?_
  refine aa_slot (d := 27) (v := .slice (some ⟨b27, 0, none⟩) 1 1) g27 ?_
  refine aa_slot (d := 10) (v := .pointer (some ⟨b10, 0, none⟩)) g10 ?_
  refine aax1 (i := 0) (by kernel_rfl) ?_
  · exact aa_oL (listed' := implWay14_l7) rfl rfl rfl rfl (by kernel_rfl) (ao_loada Try.isAgg28 Try.sizeOf28 rfl (by exact HLp) (by rfl) (by exact RFp)) (implWay14_st_7 hw hwb hfb hp hfin _ _ ⟨_, rfl, b27, b10, hk0, hk1, hk2, hk3, hn, hl27, hu27, hc27, hl10, hu10, hc10, he27_10, rfl, rfl, rfl, rfl, rfl, rfl, rfl⟩)
set_option maxHeartbeats 4000000 in
theorem implWay14_st_14 {r : Room} {a b : Spot} {H : AHeap} {Q : Exit → AFr → AHeap → Prop} (hw : wfRoom r) (hwb : wfSpot b) (hfb : isFree r b) (hp : ∀ c fr G, ¬ Q (.panic c) fr G) (hfin : ∀ fr G, implWay14_J0 r a b H fr G → Q .normal fr G) : ∀ fr G, implWay14_J14 r a b H fr G → AA Try.prog ops_implWay14 Q 5 implWay14_l14 fr G := by
  rintro fr G ⟨get, rfl, b25, hk0, hk1, hk2, hk3, hn, hl25, hu25, hc25, g3, g4, g5, g25⟩
  refine aa_slot (d := 3) (v := .pointer (some ⟨H.next, 0, none⟩)) g3 ?_
  refine aa_slot (d := 4) (v := .pointer (some ⟨H.next + 1, 0, none⟩)) g4 ?_
  refine aa_slot (d := 5) (v := .pointer (some ⟨H.next + 2, 0, none⟩)) g5 ?_
  refine aa_slot (d := 25) (v := .map (some b25)) g25 ?_
  refine aax2 (i := 3) (j := 5) (by kernel_rfl) ?_ ?_
  · exact aa_oL (listed' := implWay14_l8) rfl rfl rfl rfl (by kernel_rfl) (ao_loada Try.isAgg31 Try.sizeOf31 rfl (by exact HLp) (by rfl) (by exact RFp)) (implWay14_st_8 hw hwb hfb hp hfin _ _ ⟨_, rfl, b25, hk0, hk1, hk2, hk3, hn, hl25, hu25, hc25, rfl, rfl, rfl, rfl, rfl⟩)
  · exact aa_oL (listed' := implWay14_l9) rfl rfl rfl rfl (by kernel_rfl) (ao_alloc1 Try.zeroValue60 rfl rfl) (implWay14_st_9 hw hwb hfb hp hfin _ _ ⟨_, rfl, b25, G.next, hk0.push (by omega) _, blk_push_old hk1, blk_push_old hk2, blk_push_old hk3, Nat.le_succ_of_le hn, hl25, Nat.lt_succ_of_lt hu25, blk_push_old hc25, hn, Nat.lt_succ_self _, blk_push_new _ _, Nat.ne_of_lt hu25, rfl, rfl, rfl, rfl, rfl⟩)
set_option maxHeartbeats 4000000 in
theorem implWay14_st_15 {r : Room} {a b : Spot} {H : AHeap} {Q : Exit → AFr → AHeap → Prop} (hw : wfRoom r) (hwb : wfSpot b) (hfb : isFree r b) (hp : ∀ c fr G, ¬ Q (.panic c) fr G) (hfin : ∀ fr G, implWay14_J0 r a b H fr G → Q .normal fr G) : ∀ fr G, implWay14_J15 r a b H fr G → AA Try.prog ops_implWay14 Q 5 implWay14_l15 fr G := by
  rintro fr G ⟨get, rfl, hk0, hk1, hk2, hk3, hn, g3, g4, g5, g23, g24, g26⟩
  refine aa_slot (d := 3) (v := .pointer (some ⟨H.next, 0, none⟩)) g3 ?_
  refine aa_slot (d := 4) (v := .pointer (some ⟨H.next + 1, 0, none⟩)) g4 ?_
  refine aa_slot (d := 5) (v := .pointer (some ⟨H.next + 2, 0, none⟩)) g5 ?_
  refine aa_slot (d := 23) (v := .agg (roomC r).toArray) g23 ?_
  refine aa_slot (d := 24) (v := .agg #[.int .i8 b.x, .int .i8 b.y]) g24 ?_
  refine aa_slot (d := 26) (v := .agg #[.int .i8 a.x, .int .i8 a.y]) g26 ?_
  refine aax3 (i := 2) (j := 4) (l := 5) (by kernel_rfl) ?_ ?_ ?_
  · exact aa_oL (listed' := implWay14_l8) rfl rfl rfl rfl (by kernel_rfl) (ao_calld (implSteps_c (r := r) (s := b) hw hwb hfb) Try.call30 rfl rfl) (implWay14_st_8 hw hwb hfb hp hfin _ _ ⟨_, rfl, G.next, hk0.push (by omega) _, blk_push_old hk1, blk_push_old hk2, blk_push_old hk3, Nat.le_succ_of_le hn, hn, Nat.lt_succ_self _, blk_push_new _ _, rfl, rfl, rfl, rfl, rfl⟩)
  · exact aa_oL (listed' := implWay14_l10) rfl rfl rfl rfl (by kernel_rfl) (ao_lit1 (v := .agg _) Try.underlying35 Try.sizeOf31 Try.zeroValue31 (by rfl) (by rfl) rfl rfl (by rfl) (by exact RFp)) (implWay14_st_10 hw hwb hfb hp hfin _ _ ⟨_, rfl, G.next, hk0.push (by omega) _, blk_push_old hk1, blk_push_old hk2, blk_push_old hk3, Nat.le_succ_of_le hn, hn, Nat.lt_succ_self _, blk_push_new _ _, rfl, rfl, rfl, rfl, rfl, rfl⟩)
  · exact aa_oL (listed' := implWay14_l11) rfl rfl rfl rfl (by kernel_rfl) (ao_alloc1 Try.zeroValue60 rfl rfl) (implWay14_st_11 hw hwb hfb hp hfin _ _ ⟨_, rfl, G.next, hk0.push (by omega) _, blk_push_old hk1, blk_push_old hk2, blk_push_old hk3, Nat.le_succ_of_le hn, hn, Nat.lt_succ_self _, blk_push_new _ _, rfl, rfl, rfl, rfl, rfl, rfl, rfl⟩)
set_option maxHeartbeats 4000000 in
theorem implWay14_st_16 {r : Room} {a b : Spot} {H : AHeap} {Q : Exit → AFr → AHeap → Prop} (hw : wfRoom r) (hwb : wfSpot b) (hfb : isFree r b) (hp : ∀ c fr G, ¬ Q (.panic c) fr G) (hfin : ∀ fr G, implWay14_J0 r a b H fr G → Q .normal fr G) : ∀ fr G, implWay14_J16 r a b H fr G → AA Try.prog ops_implWay14 Q 5 implWay14_l16 fr G := by
  rintro fr G ⟨get, rfl, b10, hk0, hk1, hk2, hk3, hn, hl10, hu10, hc10, g3, g4, g5, g23, g24, g10⟩
  refine aa_slot (d := 3) (v := .pointer (some ⟨H.next, 0, none⟩)) g3 ?_
  refine aa_slot (d := 4) (v := .pointer (some ⟨H.next + 1, 0, none⟩)) g4 ?_
  refine aa_slot (d := 5) (v := .pointer (some ⟨H.next + 2, 0, none⟩)) g5 ?_
  refine aa_slot (d := 23) (v := .agg (roomC r).toArray) g23 ?_
  refine aa_slot (d := 24) (v := .agg #[.int .i8 b.x, .int .i8 b.y]) g24 ?_
  refine aa_slot (d := 10) (v := .pointer (some ⟨b10, 0, none⟩)) g10 ?_
  refine aax2 (i := 2) (j := 3) (by kernel_rfl) ?_ ?_
  · exact aa_oL (listed' := implWay14_l9) rfl rfl rfl rfl (by kernel_rfl) (ao_calld (implSteps_c (r := r) (s := b) hw hwb hfb) Try.call30 rfl rfl) (implWay14_st_9 hw hwb hfb hp hfin _ _ ⟨_, rfl, G.next, b10, hk0.push (by omega) _, blk_push_old hk1, blk_push_old hk2, blk_push_old hk3, Nat.le_succ_of_le hn, hn, Nat.lt_succ_self _, blk_push_new _ _, hl10, Nat.lt_succ_of_lt hu10, blk_push_old hc10, (Nat.ne_of_gt hu10), rfl, rfl, rfl, rfl, rfl⟩)
  · exact aa_oL (listed' := implWay14_l11) rfl rfl rfl rfl (by kernel_rfl) (ao_loada Try.isAgg31 Try.sizeOf31 rfl (by exact HLp) (by rfl) (by exact RFp)) (implWay14_st_11 hw hwb hfb hp hfin _ _ ⟨_, rfl, b10, hk0, hk1, hk2, hk3, hn, hl10, hu10, hc10, rfl, rfl, rfl, rfl, rfl, rfl, rfl⟩)
set_option maxHeartbeats 4000000 in
theorem implWay14_st_17 {r : Room} {a b : Spot} {H : AHeap} {Q : Exit → AFr → AHeap → Prop} (hw : wfRoom r) (hwb : wfSpot b) (hfb : isFree r b) (hp : ∀ c fr G, ¬ Q (.panic c) fr G) (hfin : ∀ fr G, implWay14_J0 r a b H fr G → Q .normal fr G) : ∀ fr G, implWay14_J17 r a b H fr G → AA Try.prog ops_implWay14 Q 5 implWay14_l17 fr G := by
  rintro fr G ⟨get, rfl, b27, hk0, hk1, hk2, hk3, hn, hl27, hu27, hc27, g3, g4, g5, g23, g27⟩
  refine aa_slot (d := 3) (v := .pointer (some ⟨H.next, 0, none⟩)) g3 ?_
  refine aa_slot (d := 4) (v := .pointer (some ⟨H.next + 1, 0, none⟩)) g4 ?_
  refine aa_slot (d := 5) (v := .pointer (some ⟨H.next + 2, 0, none⟩)) g5 ?_
  refine aa_slot (d := 23) (v := .agg (roomC r).toArray) g23 ?_
  refine aa_slot (d := 27) (v := .slice (some ⟨b27, 0, none⟩) 1 1) g27 ?_
  refine aax2 (i := 1) (j := 5) (by kernel_rfl) ?_ ?_
  · exact aa_oL (listed' := implWay14_l10) rfl rfl rfl rfl (by kernel_rfl) (ao_loada Try.isAgg31 Try.sizeOf31 rfl (by exact HLp) (by rfl) (by exact RFp)) (implWay14_st_10 hw hwb hfb hp hfin _ _ ⟨_, rfl, b27, hk0, hk1, hk2, hk3, hn, hl27, hu27, hc27, rfl, rfl, rfl, rfl, rfl, rfl⟩)
  · exact aa_oL (listed' := implWay14_l12) rfl rfl rfl rfl (by kernel_rfl) (ao_alloc1 Try.zeroValue60 rfl rfl) (implWay14_st_12 hw hwb hfb hp hfin _ _ ⟨_, rfl, b27, G.next, hk0.push (by omega) _, blk_push_old hk1, blk_push_old hk2, blk_push_old hk3, Nat.le_succ_of_le hn, hl27, Nat.lt_succ_of_lt hu27, blk_push_old hc27, hn, Nat.lt_succ_self _, blk_push_new _ _, Nat.ne_of_lt hu27, rfl, rfl, rfl, rfl, rfl, rfl⟩)
set_option maxHeartbeats 4000000 in
theorem implWay14_st_18 {r : Room} {a b : Spot} {H : AHeap} {Q : Exit → AFr → AHeap → Prop} (hw : wfRoom r) (hwb : wfSpot b) (hfb : isFree r b) (hp : ∀ c fr G, ¬ Q (.panic c) fr G) (hfin : ∀ fr G, implWay14_J0 r a b H fr G → Q .normal fr G) : ∀ fr G, implWay14_J18 r a b H fr G → AA Try.prog ops_implWay14 Q 5 implWay14_l18 fr G := by
  rintro fr G ⟨get, rfl, b10, hk0, hk1, hk2, hk3, hn, hl10, hu10, hc10, g3, g4, g5, g23, g26, g10⟩
  refine aa_slot (d := 3) (v := .pointer (some ⟨H.next, 0, none⟩)) g3 ?_
  refine aa_slot (d := 4) (v := .pointer (some ⟨H.next + 1, 0, none⟩)) g4 ?_
  refine aa_slot (d := 5) (v := .pointer (some ⟨H.next + 2, 0, none⟩)) g5 ?_
  refine aa_slot (d := 23) (v := .agg (roomC r).toArray) g23 ?_
  refine aa_slot (d := 26) (v := .agg #[.int .i8 a.x, .int .i8 a.y]) g26 ?_
  refine aa_slot (d := 10) (v := .pointer (some ⟨b10, 0, none⟩)) g10 ?_
  refine aax2 (i := 1) (j := 4) (by kernel_rfl) ?_ ?_
  · exact aa_oL (listed' := implWay14_l11) rfl rfl rfl rfl (by kernel_rfl) (ao_loada Try.isAgg31 Try.sizeOf31 rfl (by exact HLp) (by rfl) (by exact RFp)) (implWay14_st_11 hw hwb hfb hp hfin _ _ ⟨_, rfl, b10, hk0, hk1, hk2, hk3, hn, hl10, hu10, hc10, rfl, rfl, rfl, rfl, rfl, rfl, rfl⟩)
  · exact aa_oL (listed' := implWay14_l12) rfl rfl rfl rfl (by kernel_rfl) (ao_lit1 (v := .agg _) Try.underlying35 Try.sizeOf31 Try.zeroValue31 (by rfl) (by rfl) rfl rfl (by rfl) (by exact RFp)) (implWay14_st_12 hw hwb hfb hp hfin _ _ ⟨_, rfl, G.next, b10, hk0.push (by omega) _, blk_push_old hk1, blk_push_old hk2, blk_push_old hk3, Nat.le_succ_of_le hn, hn, Nat.lt_succ_self _, blk_push_new _ _, hl10, Nat.lt_succ_of_lt hu10, blk_push_old hc10, (Nat.ne_of_gt hu10), rfl, rfl, rfl, rfl, rfl, rfl⟩)
set_option maxHeartbeats 4000000 in
theorem implWay14_st_19 {r : Room} {a b : Spot} {H : AHeap} {Q : Exit → AFr → AHeap → Prop} (hw : wfRoom r) (hwb : wfSpot b) (hfb : isFree r b) (hp : ∀ c fr G, ¬ Q (.panic c) fr G) (hfin : ∀ fr G, implWay14_J0 r a b H fr G → Q .normal fr G) : ∀ fr G, implWay14_J19 r a b H fr G → AA Try.prog ops_implWay14 Q 5 implWay14_l19 fr G := by
  rintro fr G ⟨get, rfl, b27, hk0, hk1, hk2, hk3, hn, hl27, hu27, hc27, g3, g4, g5, g24, g27⟩
  refine aa_slot (d := 3) (v := .pointer (some ⟨H.next, 0, none⟩)) g3 ?_
  refine aa_slot (d := 4) (v := .pointer (some ⟨H.next + 1, 0, none⟩)) g4 ?_
  refine aa_slot (d := 5) (v := .pointer (some ⟨H.next + 2, 0, none⟩)) g5 ?_
  refine aa_slot (d := 24) (v := .agg #[.int .i8 b.x, .int .i8 b.y]) g24 ?_
  refine aa_slot (d := 27) (v := .slice (some ⟨b27, 0, none⟩) 1 1) g27 ?_
  refine aax2 (i := 0) (j := 5) (by kernel_rfl) ?_ ?_
  · exact aa_oL (listed' := implWay14_l10) rfl rfl rfl rfl (by kernel_rfl) (ao_loada Try.isAgg28 Try.sizeOf28 rfl (by exact HLp) (by rfl) (by exact RFp)) (implWay14_st_10 hw hwb hfb hp hfin _ _ ⟨_, rfl, b27, hk0, hk1, hk2, hk3, hn, hl27, hu27, hc27, rfl, rfl, rfl, rfl, rfl, rfl⟩)
  · exact aa_oL (listed' := implWay14_l13) rfl rfl rfl rfl (by kernel_rfl) (ao_alloc1 Try.zeroValue60 rfl rfl) (implWay14_st_13 hw hwb hfb hp hfin _ _ ⟨_, rfl, b27, G.next, hk0.push (by omega) _, blk_push_old hk1, blk_push_old hk2, blk_push_old hk3, Nat.le_succ_of_le hn, hl27, Nat.lt_succ_of_lt hu27, blk_push_old hc27, hn, Nat.lt_succ_self _, blk_push_new _ _, Nat.ne_of_lt hu27, rfl, rfl, rfl, rfl, rfl, rfl⟩)
set_option maxHeartbeats 4000000 in
theorem implWay14_st_20 {r : Room} {a b : Spot} {H : AHeap} {Q : Exit → AFr → AHeap → Prop} (hw : wfRoom r) (hwb : wfSpot b) (hfb : isFree r b) (hp : ∀ c fr G, ¬ Q (.panic c) fr G) (hfin : ∀ fr G, implWay14_J0 r a b H fr G → Q .normal fr G) : ∀ fr G, implWay14_J20 r a b H fr G → AA Try.prog ops_implWay14 Q 5 implWay14_l20 fr G := by
  rintro fr G ⟨get, rfl, b10, hk0, hk1, hk2, hk3, hn, hl10, hu10, hc10, g3, g4, g5, g24, g26, g10⟩
  refine aa_slot (d := 3) (v := .pointer (some ⟨H.next, 0, none⟩)) g3 ?_
  refine aa_slot (d := 4) (v := .pointer (some ⟨H.next + 1, 0, none⟩)) g4 ?_
  refine aa_slot (d := 5) (v := .pointer (some ⟨H.next + 2, 0, none⟩)) g5 ?_
  refine aa_slot (d := 24) (v := .agg #[.int .i8 b.x, .int .i8 b.y]) g24 ?_
  refine aa_slot (d := 26) (v := .agg #[.int .i8 a.x, .int .i8 a.y]) g26 ?_
  refine aa_slot (d := 10) (v := .pointer (some ⟨b10, 0, none⟩)) g10 ?_
  refine aax2 (i := 0) (j := 4) (by kernel_rfl) ?_ ?_
  · exact aa_oL (listed' := implWay14_l11) rfl rfl rfl rfl (by kernel_rfl) (ao_loada Try.isAgg28 Try.sizeOf28 rfl (by exact HLp) (by rfl) (by exact RFp)) (implWay14_st_11 hw hwb hfb hp hfin _ _ ⟨_, rfl, b10, hk0, hk1, hk2, hk3, hn, hl10, hu10, hc10, rfl, rfl, rfl, rfl, rfl, rfl, rfl⟩)
  · exact aa_oL (listed' := implWay14_l13) rfl rfl rfl rfl (by kernel_rfl) (ao_lit1 (v := .agg _) Try.underlying35 Try.sizeOf31 Try.zeroValue31 (by rfl) (by rfl) rfl rfl (by rfl) (by exact RFp)) (implWay14_st_13 hw hwb hfb hp hfin _ _ ⟨_, rfl, G.next, b10, hk0.push (by omega) _, blk_push_old hk1, blk_push_old hk2, blk_push_old hk3, Nat.le_succ_of_le hn, hn, Nat.lt_succ_self _, blk_push_new _ _, hl10, Nat.lt_succ_of_lt hu10, blk_push_old hc10, (Nat.ne_of_gt hu10), rfl, rfl, rfl, rfl, rfl, rfl⟩)
set_option maxHeartbeats 4000000 in
theorem implWay14_st_21 {r : Room} {a b : Spot} {H : AHeap} {Q : Exit → AFr → AHeap → Prop} (hw : wfRoom r) (hwb : wfSpot b) (hfb : isFree r b) (hp : ∀ c fr G, ¬ Q (.panic c) fr G) (hfin : ∀ fr G, implWay14_J0 r a b H fr G → Q .normal fr G) : ∀ fr G, implWay14_J21 r a b H fr G → AA Try.prog ops_implWay14 Q 5 implWay14_l21 fr G := by
  rintro fr G ⟨get, rfl, b27, b10, hk0, hk1, hk2, hk3, hn, hl27, hu27, hc27, hl10, hu10, hc10, he27_10, g3, g4, g5, g27, g10⟩
  refine aa_slot (d := 3) (v := .pointer (some ⟨H.next, 0, none⟩)) g3 ?_
  refine aa_slot (d := 4) (v := .pointer (some ⟨H.next + 1, 0, none⟩)) g4 ?_
  refine aa_slot (d := 5) (v := .pointer (some ⟨H.next + 2, 0, none⟩)) g5 ?_
  refine aa_slot (d := 27) (v := .slice (some ⟨b27, 0, none⟩) 1 1) g27 ?_
  refine aa_slot (d := 10) (v := .pointer (some ⟨b10, 0, none⟩)) g10 ?_
  refine aax2 (i := 0) (j := 1) (by kernel_rfl) ?_ ?_
  · exact aa_oL (listed' := implWay14_l12) rfl rfl rfl rfl (by kernel_rfl) (ao_loada Try.isAgg28 Try.sizeOf28 rfl (by exact HLp) (by rfl) (by exact RFp)) (implWay14_st_12 hw hwb hfb hp hfin _ _ ⟨_, rfl, b27, b10, hk0, hk1, hk2, hk3, hn, hl27, hu27, hc27, hl10, hu10, hc10, he27_10, rfl, rfl, rfl, rfl, rfl, rfl⟩)
  · exact aa_oL (listed' := implWay14_l13) rfl rfl rfl rfl (by kernel_rfl) (ao_loada Try.isAgg31 Try.sizeOf31 rfl (by exact HLp) (by rfl) (by exact RFp)) (implWay14_st_13 hw hwb hfb hp hfin _ _ ⟨_, rfl, b27, b10, hk0, hk1, hk2, hk3, hn, hl27, hu27, hc27, hl10, hu10, hc10, he27_10, rfl, rfl, rfl, rfl, rfl, rfl⟩)
set_option maxHeartbeats 4000000 in
theorem implWay14_st_22 {r : Room} {a b : Spot} {H : AHeap} {Q : Exit → AFr → AHeap → Prop} (hw : wfRoom r) (hwb : wfSpot b) (hfb : isFree r b) (hp : ∀ c fr G, ¬ Q (.panic c) fr G) (hfin : ∀ fr G, implWay14_J0 r a b H fr G → Q .normal fr G) : ∀ fr G, implWay14_J22 r a b H fr G → AA Try.prog ops_implWay14 Q 6 implWay14_l22 fr G := by
  rintro fr G ⟨get, rfl, hk0, hk1, hk2, hk3, hn, g3, g4, g5, g23, g24⟩
  refine aa_slot (d := 3) (v := .pointer (some ⟨H.next, 0, none⟩)) g3 ?_
  refine aa_slot (d := 4) (v := .pointer (some ⟨H.next + 1, 0, none⟩)) g4 ?_
  refine aa_slot (d := 5) (v := .pointer (some ⟨H.next + 2, 0, none⟩)) g5 ?_
  refine aa_slot (d := 23) (v := .agg (roomC r).toArray) g23 ?_
  refine aa_slot (d := 24) (v := .agg #[.int .i8 b.x, .int .i8 b.y]) g24 ?_
  refine aax3 (i := 2) (j := 3) (l := 5) (by kernel_rfl) ?_ ?_ ?_
  · exact aa_oL (listed' := implWay14_l14) rfl rfl rfl rfl (by kernel_rfl) (ao_calld (implSteps_c (r := r) (s := b) hw hwb hfb) Try.call30 rfl rfl) (implWay14_st_14 hw hwb hfb hp hfin _ _ ⟨_, rfl, G.next, hk0.push (by omega) _, blk_push_old hk1, blk_push_old hk2, blk_push_old hk3, Nat.le_succ_of_le hn, hn, Nat.lt_succ_self _, blk_push_new _ _, rfl, rfl, rfl, rfl⟩)
  · exact aa_oL (listed' := implWay14_l15) rfl rfl rfl rfl (by kernel_rfl) (ao_loada Try.isAgg31 Try.sizeOf31 rfl (by exact HLp) (by rfl) (by exact RFp)) (implWay14_st_15 hw hwb hfb hp hfin _ _ ⟨_, rfl, hk0, hk1, hk2, hk3, hn, rfl, rfl, rfl, rfl, rfl, rfl⟩)
  · exact aa_oL (listed' := implWay14_l16) rfl rfl rfl rfl (by kernel_rfl) (ao_alloc1 Try.zeroValue60 rfl rfl) (implWay14_st_16 hw hwb hfb hp hfin _ _ ⟨_, rfl, G.next, hk0.push (by omega) _, blk_push_old hk1, blk_push_old hk2, blk_push_old hk3, Nat.le_succ_of_le hn, hn, Nat.lt_succ_self _, blk_push_new _ _, rfl, rfl, rfl, rfl, rfl, rfl⟩)
set_option maxHeartbeats 4000000 in
theorem implWay14_st_23 {r : Room} {a b : Spot} {H : AHeap} {Q : Exit → AFr → AHeap → Prop} (hw : wfRoom r) (hwb : wfSpot b) (hfb : isFree r b) (hp : ∀ c fr G, ¬ Q (.panic c) fr G) (hfin : ∀ fr G, implWay14_J0 r a b H fr G → Q .normal fr G) : ∀ fr G, implWay14_J23 r a b H fr G → AA Try.prog ops_implWay14 Q 6 implWay14_l23 fr G := by
  rintro fr G ⟨get, rfl, hk0, hk1, hk2, hk3, hn, g3, g4, g5, g23, g26⟩
  refine aa_slot (d := 3) (v := .pointer (some ⟨H.next, 0, none⟩)) g3 ?_
  refine aa_slot (d := 4) (v := .pointer (some ⟨H.next + 1, 0, none⟩)) g4 ?_
  refine aa_slot (d := 5) (v := .pointer (some ⟨H.next + 2, 0, none⟩)) g5 ?_
  refine aa_slot (d := 23) (v := .agg (roomC r).toArray) g23 ?_
  refine aa_slot (d := 26) (v := .agg #[.int .i8 a.x, .int .i8 a.y]) g26 ?_
  refine aax3 (i := 1) (j := 4) (l := 5) (by kernel_rfl) ?_ ?_ ?_
  · exact aa_oL (listed' := implWay14_l15) rfl rfl rfl rfl (by kernel_rfl) (ao_loada Try.isAgg31 Try.sizeOf31 rfl (by exact HLp) (by rfl) (by exact RFp)) (implWay14_st_15 hw hwb hfb hp hfin _ _ ⟨_, rfl, hk0, hk1, hk2, hk3, hn, rfl, rfl, rfl, rfl, rfl, rfl⟩)
  · exact aa_oL (listed' := implWay14_l17) rfl rfl rfl rfl (by kernel_rfl) (ao_lit1 (v := .agg _) Try.underlying35 Try.sizeOf31 Try.zeroValue31 (by rfl) (by rfl) rfl rfl (by rfl) (by exact RFp)) (implWay14_st_17 hw hwb hfb hp hfin _ _ ⟨_, rfl, G.next, hk0.push (by omega) _, blk_push_old hk1, blk_push_old hk2, blk_push_old hk3, Nat.le_succ_of_le hn, hn, Nat.lt_succ_self _, blk_push_new _ _, rfl, rfl, rfl, rfl, rfl⟩)
  · exact aa_oL (listed' := implWay14_l18) rfl rfl rfl rfl (by kernel_rfl) (ao_alloc1 Try.zeroValue60 rfl rfl) (implWay14_st_18 hw hwb hfb hp hfin _ _ ⟨_, rfl, G.next, hk0.push (by omega) _, blk_push_old hk1, blk_push_old hk2, blk_push_old hk3, Nat.le_succ_of_le hn, hn, Nat.lt_succ_self _, blk_push_new _ _, rfl, rfl, rfl, rfl, rfl, rfl⟩)
set_option maxHeartbeats 4000000 in
theorem implWay14_st_24 {r : Room} {a b : Spot} {H : AHeap} {Q : Exit → AFr → AHeap → Prop} (hw : wfRoom r) (hwb : wfSpot b) (hfb : isFree r b) (hp : ∀ c fr G, ¬ Q (.panic c) fr G) (hfin : ∀ fr G, implWay14_J0 r a b H fr G → Q .normal fr G) : ∀ fr G, implWay14_J24 r a b H fr G → AA Try.prog ops_implWay14 Q 6 implWay14_l24 fr G := by
  rintro fr G ⟨get, rfl, b10, hk0, hk1, hk2, hk3, hn, hl10, hu10, hc10, g3, g4, g5, g23, g10⟩
  refine aa_slot (d := 3) (v := .pointer (some ⟨H.next, 0, none⟩)) g3 ?_
  refine aa_slot (d := 4) (v := .pointer (some ⟨H.next + 1, 0, none⟩)) g4 ?_
  refine aa_slot (d := 5) (v := .pointer (some ⟨H.next + 2, 0, none⟩)) g5 ?_
  refine aa_slot (d := 23) (v := .agg (roomC r).toArray) g23 ?_
  refine aa_slot (d := 10) (v := .pointer (some ⟨b10, 0, none⟩)) g10 ?_
  refine aax2 (i := 1) (j := 3) (by kernel_rfl) ?_ ?_
  · exact aa_oL (listed' := implWay14_l16) rfl rfl rfl rfl (by kernel_rfl) (ao_loada Try.isAgg31 Try.sizeOf31 rfl (by exact HLp) (by rfl) (by exact RFp)) (implWay14_st_16 hw hwb hfb hp hfin _ _ ⟨_, rfl, b10, hk0, hk1, hk2, hk3, hn, hl10, hu10, hc10, rfl, rfl, rfl, rfl, rfl, rfl⟩)
  · exact aa_oL (listed' := implWay14_l18) rfl rfl rfl rfl (by kernel_rfl) (ao_loada Try.isAgg31 Try.sizeOf31 rfl (by exact HLp) (by rfl) (by exact RFp)) (implWay14_st_18 hw hwb hfb hp hfin _ _ ⟨_, rfl, b10, hk0, hk1, hk2, hk3, hn, hl10, hu10, hc10, rfl, rfl, rfl, rfl, rfl, rfl⟩)
set_option maxHeartbeats 4000000 in
theorem implWay14_st_25 {r : Room} {a b : Spot} {H : AHeap} {Q : Exit → AFr → AHeap → Prop} (hw : wfRoom r) (hwb : wfSpot b) (hfb : isFree r b) (hp : ∀ c fr G, ¬ Q (.panic c) fr G) (hfin : ∀ fr G, implWay14_J0 r a b H fr G → Q .normal fr G) : ∀ fr G, implWay14_J25 r a b H fr G → AA Try.prog ops_implWay14 Q 6 implWay14_l25 fr G := by
  rintro fr G ⟨get, rfl, hk0, hk1, hk2, hk3, hn, g3, g4, g5, g24, g26⟩
  refine aa_slot (d := 3) (v := .pointer (some ⟨H.next, 0, none⟩)) g3 ?_
  refine aa_slot (d := 4) (v := .pointer (some ⟨H.next + 1, 0, none⟩)) g4 ?_
  refine aa_slot (d := 5) (v := .pointer (some ⟨H.next + 2, 0, none⟩)) g5 ?_
  refine aa_slot (d := 24) (v := .agg #[.int .i8 b.x, .int .i8 b.y]) g24 ?_
  refine aa_slot (d := 26) (v := .agg #[.int .i8 a.x, .int .i8 a.y]) g26 ?_
  refine aax3 (i := 0) (j := 4) (l := 5) (by kernel_rfl) ?_ ?_ ?_
  · exact aa_oL (listed' := implWay14_l15) rfl rfl rfl rfl (by kernel_rfl) (ao_loada Try.isAgg28 Try.sizeOf28 rfl (by exact HLp) (by rfl) (by exact RFp)) (implWay14_st_15 hw hwb hfb hp hfin _ _ ⟨_, rfl, hk0, hk1, hk2, hk3, hn, rfl, rfl, rfl, rfl, rfl, rfl⟩)
  · exact aa_oL (listed' := implWay14_l19) rfl rfl rfl rfl (by kernel_rfl) (ao_lit1 (v := .agg _) Try.underlying35 Try.sizeOf31 Try.zeroValue31 (by rfl) (by rfl) rfl rfl (by rfl) (by exact RFp)) (implWay14_st_19 hw hwb hfb hp hfin _ _ ⟨_, rfl, G.next, hk0.push (by omega) _, blk_push_old hk1, blk_push_old hk2, blk_push_old hk3, Nat.le_succ_of_le hn, hn, Nat.lt_succ_self _, blk_push_new _ _, rfl, rfl, rfl, rfl, rfl⟩)
  · exact aa_oL (listed' := implWay14_l20) rfl rfl rfl rfl (by kernel_rfl) (ao_alloc1 Try.zeroValue60 rfl rfl) (implWay14_st_20 hw hwb hfb hp hfin _ _ ⟨_, rfl, G.next, hk0.push (by omega) _, blk_push_old hk1, blk_push_old hk2, blk_push_old hk3, Nat.le_succ_of_le hn, hn, Nat.lt_succ_self _, blk_push_new _ _, rfl, rfl, rfl, rfl, rfl, rfl⟩)
set_option maxHeartbeats 4000000 in
theorem implWay14_st_26 {r : Room} {a b : Spot} {H : AHeap} {Q : Exit → AFr → AHeap → Prop} (hw : wfRoom r) (hwb : wfSpot b) (hfb : isFree r b) (hp : ∀ c fr G, ¬ Q (.panic c) fr G) (hfin : ∀ fr G, implWay14_J0 r a b H fr G → Q .normal fr G) : ∀ fr G, implWay14_J26 r a b H fr G → AA Try.prog ops_implWay14 Q 6 implWay14_l26 fr G := by
  rintro fr G ⟨get, rfl, b10, hk0, hk1, hk2, hk3, hn, hl10, hu10, hc10, g3, g4, g5, g24, g10⟩
  refine aa_slot (d := 3) (v := .pointer (some ⟨H.next, 0, none⟩)) g3 ?_
  refine aa_slot (d := 4) (v := .pointer (some ⟨H.next + 1, 0, none⟩)) g4 ?_
  refine aa_slot (d := 5) (v := .pointer (some ⟨H.next + 2, 0, none⟩)) g5 ?_
  refine aa_slot (d := 24) (v := .agg #[.int .i8 b.x, .int .i8 b.y]) g24 ?_
  refine aa_slot (d := 10) (v := .pointer (some ⟨b10, 0, none⟩)) g10 ?_
  refine aax2 (i := 0) (j := 3) (by kernel_rfl) ?_ ?_
  · exact aa_oL (listed' := implWay14_l16) rfl rfl rfl rfl (by kernel_rfl) (ao_loada Try.isAgg28 Try.sizeOf28 rfl (by exact HLp) (by rfl) (by exact RFp)) (implWay14_st_16 hw hwb hfb hp hfin _ _ ⟨_, rfl, b10, hk0, hk1, hk2, hk3, hn, hl10, hu10, hc10, rfl, rfl, rfl, rfl, rfl, rfl⟩)
  · exact aa_oL (listed' := implWay14_l20) rfl rfl rfl rfl (by kernel_rfl) (ao_loada Try.isAgg31 Try.sizeOf31 rfl (by exact HLp) (by rfl) (by exact RFp)) (implWay14_st_20 hw hwb hfb hp hfin _ _ ⟨_, rfl, b10, hk0, hk1, hk2, hk3, hn, hl10, hu10, hc10, rfl, rfl, rfl, rfl, rfl, rfl⟩)
set_option maxHeartbeats 4000000 in
theorem implWay14_st_27 {r : Room} {a b : Spot} {H : AHeap} {Q : Exit → AFr → AHeap → Prop} (hw : wfRoom r) (hwb : wfSpot b) (hfb : isFree r b) (hp : ∀ c fr G, ¬ Q (.panic c) fr G) (hfin : ∀ fr G, implWay14_J0 r a b H fr G → Q .normal fr G) : ∀ fr G, implWay14_J27 r a b H fr G → AA Try.prog ops_implWay14 Q 6 implWay14_l27 fr G := by
  rintro fr G ⟨get, rfl, b27, hk0, hk1, hk2, hk3, hn, hl27, hu27, hc27, g3, g4, g5, g27⟩
  refine aa_slot (d := 3) (v := .pointer (some ⟨H.next, 0, none⟩)) g3 ?_
  refine aa_slot (d := 4) (v := .pointer (some ⟨H.next + 1, 0, none⟩)) g4 ?_
  refine aa_slot (d := 5) (v := .pointer (some ⟨H.next + 2, 0, none⟩)) g5 ?_
  refine aa_slot (d := 27) (v := .slice (some ⟨b27, 0, none⟩) 1 1) g27 ?_
  refine aax3 (i := 0) (j := 1) (l := 5) (by kernel_rfl) ?_ ?_ ?_
  · exact aa_oL (listed' := implWay14_l17) rfl rfl rfl rfl (by kernel_rfl) (ao_loada Try.isAgg28 Try.sizeOf28 rfl (by exact HLp) (by rfl) (by exact RFp)) (implWay14_st_17 hw hwb hfb hp hfin _ _ ⟨_, rfl, b27, hk0, hk1, hk2, hk3, hn, hl27, hu27, hc27, rfl, rfl, rfl, rfl, rfl⟩)
  · exact aa_oL (listed' := implWay14_l19) rfl rfl rfl rfl (by kernel_rfl) (ao_loada Try.isAgg31 Try.sizeOf31 rfl (by exact HLp) (by rfl) (by exact RFp)) (implWay14_st_19 hw hwb hfb hp hfin _ _ ⟨_, rfl, b27, hk0, hk1, hk2, hk3, hn, hl27, hu27, hc27, rfl, rfl, rfl, rfl, rfl⟩)
  · exact aa_oL (listed' := implWay14_l21) rfl rfl rfl rfl (by kernel_rfl) (ao_alloc1 Try.zeroValue60 rfl rfl) (implWay14_st_21 hw hwb hfb hp hfin _ _ ⟨_, rfl, b27, G.next, hk0.push (by omega) _, blk_push_old hk1, blk_push_old hk2, blk_push_old hk3, Nat.le_succ_of_le hn, hl27, Nat.lt_succ_of_lt hu27, blk_push_old hc27, hn, Nat.lt_succ_self _, blk_push_new _ _, Nat.ne_of_lt hu27, rfl, rfl, rfl, rfl, rfl⟩)
set_option maxHeartbeats 4000000 in
theorem implWay14_st_28 {r : Room} {a b : Spot} {H : AHeap} {Q : Exit → AFr → AHeap → Prop} (hw : wfRoom r) (hwb : wfSpot b) (hfb : isFree r b) (hp : ∀ c fr G, ¬ Q (.panic c) fr G) (hfin : ∀ fr G, implWay14_J0 r a b H fr G → Q .normal fr G) : ∀ fr G, implWay14_J28 r a b H fr G → AA Try.prog ops_implWay14 Q 6 implWay14_l28 fr G := by
  rintro fr G ⟨get, rfl, b10, hk0, hk1, hk2, hk3, hn, hl10, hu10, hc10, g3, g4, g5, g26, g10⟩
  refine aa_slot (d := 3) (v := .pointer (some ⟨H.next, 0, none⟩)) g3 ?_
  refine aa_slot (d := 4) (v := .pointer (some ⟨H.next + 1, 0, none⟩)) g4 ?_
  refine aa_slot (d := 5) (v := .pointer (some ⟨H.next + 2, 0, none⟩)) g5 ?_
  refine aa_slot (d := 26) (v := .agg #[.int .i8 a.x, .int .i8 a.y]) g26 ?_
  refine aa_slot (d := 10) (v := .pointer (some ⟨b10, 0, none⟩)) g10 ?_
  refine aax3 (i := 0) (j := 1) (l := 4) (by kernel_rfl) ?_ ?_ ?_
  · exact aa_oL (listed' := implWay14_l18) rfl rfl rfl rfl (by kernel_rfl) (ao_loada Try.isAgg28 Try.sizeOf28 rfl (by exact HLp) (by rfl) (by exact RFp)) (implWay14_st_18 hw hwb hfb hp hfin _ _ ⟨_, rfl, b10, hk0, hk1, hk2, hk3, hn, hl10, hu10, hc10, rfl, rfl, rfl, rfl, rfl, rfl⟩)
  · exact aa_oL (listed' := implWay14_l20) rfl rfl rfl rfl (by kernel_rfl) (ao_loada Try.isAgg31 Try.sizeOf31 rfl (by exact HLp) (by rfl) (by exact RFp)) (implWay14_st_20 hw hwb hfb hp hfin _ _ ⟨_, rfl, b10, hk0, hk1, hk2, hk3, hn, hl10, hu10, hc10, rfl, rfl, rfl, rfl, rfl, rfl⟩)
  · exact aa_oL (listed' := implWay14_l21) rfl rfl rfl rfl (by kernel_rfl) (ao_lit1 (v := .agg _) Try.underlying35 Try.sizeOf31 Try.zeroValue31 (by rfl) (by rfl) rfl rfl (by rfl) (by exact RFp)) (implWay14_st_21 hw hwb hfb hp hfin _ _ ⟨_, rfl, G.next, b10, hk0.push (by omega) _, blk_push_old hk1, blk_push_old hk2, blk_push_old hk3, Nat.le_succ_of_le hn, hn, Nat.lt_succ_self _, blk_push_new _ _, hl10, Nat.lt_succ_of_lt hu10, blk_push_old hc10, (Nat.ne_of_gt hu10), rfl, rfl, rfl, rfl, rfl⟩)
set_option maxHeartbeats 4000000 in
theorem implWay14_st_29 {r : Room} {a b : Spot} {H : AHeap} {Q : Exit → AFr → AHeap → Prop} (hw : wfRoom r) (hwb : wfSpot b) (hfb : isFree r b) (hp : ∀ c fr G, ¬ Q (.panic c) fr G) (hfin : ∀ fr G, implWay14_J0 r a b H fr G → Q .normal fr G) : ∀ fr G, implWay14_J29 r a b H fr G → AA Try.prog ops_implWay14 Q 7 implWay14_l29 fr G := by
  rintro fr G ⟨get, rfl, hk0, hk1, hk2, hk3, hn, g3, g4, g5, g23⟩
  refine aa_slot (d := 3) (v := .pointer (some ⟨H.next, 0, none⟩)) g3 ?_
  refine aa_slot (d := 4) (v := .pointer (some ⟨H.next + 1, 0, none⟩)) g4 ?_
  refine aa_slot (d := 5) (v := .pointer (some ⟨H.next + 2, 0, none⟩)) g5 ?_
  refine aa_slot (d := 23) (v := .agg (roomC r).toArray) g23 ?_
  refine aax3 (i := 1) (j := 3) (l := 5) (by kernel_rfl) ?_ ?_ ?_
  · exact aa_oL (listed' := implWay14_l22) rfl rfl rfl rfl (by kernel_rfl) (ao_loada Try.isAgg31 Try.sizeOf31 rfl (by exact HLp) (by rfl) (by exact RFp)) (implWay14_st_22 hw hwb hfb hp hfin _ _ ⟨_, rfl, hk0, hk1, hk2, hk3, hn, rfl, rfl, rfl, rfl, rfl⟩)
  · exact aa_oL (listed' := implWay14_l23) rfl rfl rfl rfl (by kernel_rfl) (ao_loada Try.isAgg31 Try.sizeOf31 rfl (by exact HLp) (by rfl) (by exact RFp)) (implWay14_st_23 hw hwb hfb hp hfin _ _ ⟨_, rfl, hk0, hk1, hk2, hk3, hn, rfl, rfl, rfl, rfl, rfl⟩)
  · exact aa_oL (listed' := implWay14_l24) rfl rfl rfl rfl (by kernel_rfl) (ao_alloc1 Try.zeroValue60 rfl rfl) (implWay14_st_24 hw hwb hfb hp hfin _ _ ⟨_, rfl, G.next, hk0.push (by omega) _, blk_push_old hk1, blk_push_old hk2, blk_push_old hk3, Nat.le_succ_of_le hn, hn, Nat.lt_succ_self _, blk_push_new _ _, rfl, rfl, rfl, rfl, rfl⟩)
set_option maxHeartbeats 4000000 in
theorem implWay14_st_30 {r : Room} {a b : Spot} {H : AHeap} {Q : Exit → AFr → AHeap → Prop} (hw : wfRoom r) (hwb : wfSpot b) (hfb : isFree r b) (hp : ∀ c fr G, ¬ Q (.panic c) fr G) (hfin : ∀ fr G, implWay14_J0 r a b H fr G → Q .normal fr G) : ∀ fr G, implWay14_J30 r a b H fr G → AA Try.prog ops_implWay14 Q 7 implWay14_l30 fr G := by
  rintro fr G ⟨get, rfl, hk0, hk1, hk2, hk3, hn, g3, g4, g5, g24⟩
  refine aa_slot (d := 3) (v := .pointer (some ⟨H.next, 0, none⟩)) g3 ?_
  refine aa_slot (d := 4) (v := .pointer (some ⟨H.next + 1, 0, none⟩)) g4 ?_
  refine aa_slot (d := 5) (v := .pointer (some ⟨H.next + 2, 0, none⟩)) g5 ?_
  refine aa_slot (d := 24) (v := .agg #[.int .i8 b.x, .int .i8 b.y]) g24 ?_
  refine aax3 (i := 0) (j := 3) (l := 5) (by kernel_rfl) ?_ ?_ ?_
  · exact aa_oL (listed' := implWay14_l22) rfl rfl rfl rfl (by kernel_rfl) (ao_loada Try.isAgg28 Try.sizeOf28 rfl (by exact HLp) (by rfl) (by exact RFp)) (implWay14_st_22 hw hwb hfb hp hfin _ _ ⟨_, rfl, hk0, hk1, hk2, hk3, hn, rfl, rfl, rfl, rfl, rfl⟩)
  · exact aa_oL (listed' := implWay14_l25) rfl rfl rfl rfl (by kernel_rfl) (ao_loada Try.isAgg31 Try.sizeOf31 rfl (by exact HLp) (by rfl) (by exact RFp)) (implWay14_st_25 hw hwb hfb hp hfin _ _ ⟨_, rfl, hk0, hk1, hk2, hk3, hn, rfl, rfl, rfl, rfl, rfl⟩)
  · exact aa_oL (listed' := implWay14_l26) rfl rfl rfl rfl (by kernel_rfl) (ao_alloc1 Try.zeroValue60 rfl rfl) (implWay14_st_26 hw hwb hfb hp hfin _ _ ⟨_, rfl, G.next, hk0.push (by omega) _, blk_push_old hk1, blk_push_old hk2, blk_push_old hk3, Nat.le_succ_of_le hn, hn, Nat.lt_succ_self _, blk_push_new _ _, rfl, rfl, rfl, rfl, rfl⟩)
set_option maxHeartbeats 4000000 in
theorem implWay14_st_31 {r : Room} {a b : Spot} {H : AHeap} {Q : Exit → AFr → AHeap → Prop} (hw : wfRoom r) (hwb : wfSpot b) (hfb : isFree r b) (hp : ∀ c fr G, ¬ Q (.panic c) fr G) (hfin : ∀ fr G, implWay14_J0 r a b H fr G → Q .normal fr G) : ∀ fr G, implWay14_J31 r a b H fr G → AA Try.prog ops_implWay14 Q 7 implWay14_l31 fr G := by
  rintro fr G ⟨get, rfl, hk0, hk1, hk2, hk3, hn, g3, g4, g5, g26⟩
  refine aa_slot (d := 3) (v := .pointer (some ⟨H.next, 0, none⟩)) g3 ?_
  refine aa_slot (d := 4) (v := .pointer (some ⟨H.next + 1, 0, none⟩)) g4 ?_
  refine aa_slot (d := 5) (v := .pointer (some ⟨H.next + 2, 0, none⟩)) g5 ?_
  refine aa_slot (d := 26) (v := .agg #[.int .i8 a.x, .int .i8 a.y]) g26 ?_
  refine aax4 (i := 0) (j := 1) (l := 4) (o := 5) (by kernel_rfl) ?_ ?_ ?_ ?_
  · exact aa_oL (listed' := implWay14_l23) rfl rfl rfl rfl (by kernel_rfl) (ao_loada Try.isAgg28 Try.sizeOf28 rfl (by exact HLp) (by rfl) (by exact RFp)) (implWay14_st_23 hw hwb hfb hp hfin _ _ ⟨_, rfl, hk0, hk1, hk2, hk3, hn, rfl, rfl, rfl, rfl, rfl⟩)
  · exact aa_oL (listed' := implWay14_l25) rfl rfl rfl rfl (by kernel_rfl) (ao_loada Try.isAgg31 Try.sizeOf31 rfl (by exact HLp) (by rfl) (by exact RFp)) (implWay14_st_25 hw hwb hfb hp hfin _ _ ⟨_, rfl, hk0, hk1, hk2, hk3, hn, rfl, rfl, rfl, rfl, rfl⟩)
  · exact aa_oL (listed' := implWay14_l27) rfl rfl rfl rfl (by kernel_rfl) (ao_lit1 (v := .agg _) Try.underlying35 Try.sizeOf31 Try.zeroValue31 (by rfl) (by rfl) rfl rfl (by rfl) (by exact RFp)) (implWay14_st_27 hw hwb hfb hp hfin _ _ ⟨_, rfl, G.next, hk0.push (by omega) _, blk_push_old hk1, blk_push_old hk2, blk_push_old hk3, Nat.le_succ_of_le hn, hn, Nat.lt_succ_self _, blk_push_new _ _, rfl, rfl, rfl, rfl⟩)
  · exact aa_oL (listed' := implWay14_l28) rfl rfl rfl rfl (by kernel_rfl) (ao_alloc1 Try.zeroValue60 rfl rfl) (implWay14_st_28 hw hwb hfb hp hfin _ _ ⟨_, rfl, G.next, hk0.push (by omega) _, blk_push_old hk1, blk_push_old hk2, blk_push_old hk3, Nat.le_succ_of_le hn, hn, Nat.lt_succ_self _, blk_push_new _ _, rfl, rfl, rfl, rfl, rfl⟩)
set_option maxHeartbeats 4000000 in
theorem implWay14_st_32 {r : Room} {a b : Spot} {H : AHeap} {Q : Exit → AFr → AHeap → Prop} (hw : wfRoom r) (hwb : wfSpot b) (hfb : isFree r b) (hp : ∀ c fr G, ¬ Q (.panic c) fr G) (hfin : ∀ fr G, implWay14_J0 r a b H fr G → Q .normal fr G) : ∀ fr G, implWay14_J32 r a b H fr G → AA Try.prog ops_implWay14 Q 7 implWay14_l32 fr G := by
  rintro fr G ⟨get, rfl, b10, hk0, hk1, hk2, hk3, hn, hl10, hu10, hc10, g3, g4, g5, g10⟩
  refine aa_slot (d := 3) (v := .pointer (some ⟨H.next, 0, none⟩)) g3 ?_
  refine aa_slot (d := 4) (v := .pointer (some ⟨H.next + 1, 0, none⟩)) g4 ?_
  refine aa_slot (d := 5) (v := .pointer (some ⟨H.next + 2, 0, none⟩)) g5 ?_
  refine aa_slot (d := 10) (v := .pointer (some ⟨b10, 0, none⟩)) g10 ?_
  refine aax3 (i := 0) (j := 1) (l := 3) (by kernel_rfl) ?_ ?_ ?_
  · exact aa_oL (listed' := implWay14_l24) rfl rfl rfl rfl (by kernel_rfl) (ao_loada Try.isAgg28 Try.sizeOf28 rfl (by exact HLp) (by rfl) (by exact RFp)) (implWay14_st_24 hw hwb hfb hp hfin _ _ ⟨_, rfl, b10, hk0, hk1, hk2, hk3, hn, hl10, hu10, hc10, rfl, rfl, rfl, rfl, rfl⟩)
  · exact aa_oL (listed' := implWay14_l26) rfl rfl rfl rfl (by kernel_rfl) (ao_loada Try.isAgg31 Try.sizeOf31 rfl (by exact HLp) (by rfl) (by exact RFp)) (implWay14_st_26 hw hwb hfb hp hfin _ _ ⟨_, rfl, b10, hk0, hk1, hk2, hk3, hn, hl10, hu10, hc10, rfl, rfl, rfl, rfl, rfl⟩)
  · exact aa_oL (listed' := implWay14_l28) rfl rfl rfl rfl (by kernel_rfl) (ao_loada Try.isAgg31 Try.sizeOf31 rfl (by exact HLp) (by rfl) (by exact RFp)) (implWay14_st_28 hw hwb hfb hp hfin _ _ ⟨_, rfl, b10, hk0, hk1, hk2, hk3, hn, hl10, hu10, hc10, rfl, rfl, rfl, rfl, rfl⟩)
set_option maxHeartbeats 4000000 in
theorem implWay14_st_33 {r : Room} {a b : Spot} {H : AHeap} {Q : Exit → AFr → AHeap → Prop} (hw : wfRoom r) (hwb : wfSpot b) (hfb : isFree r b) (hp : ∀ c fr G, ¬ Q (.panic c) fr G) (hfin : ∀ fr G, implWay14_J0 r a b H fr G → Q .normal fr G) : ∀ fr G, implWay14_J33 r a b H fr G → AA Try.prog ops_implWay14 Q 8 implWay14_l33 fr G := by
  rintro fr G ⟨get, rfl, hk0, hk1, hk2, hk3, hn, g3, g4, g5⟩
  refine aa_slot (d := 3) (v := .pointer (some ⟨H.next, 0, none⟩)) g3 ?_
  refine aa_slot (d := 4) (v := .pointer (some ⟨H.next + 1, 0, none⟩)) g4 ?_
  refine aa_slot (d := 5) (v := .pointer (some ⟨H.next + 2, 0, none⟩)) g5 ?_
  refine aax4 (i := 0) (j := 1) (l := 3) (o := 5) (by kernel_rfl) ?_ ?_ ?_ ?_
  · exact aa_oL (listed' := implWay14_l29) rfl rfl rfl rfl (by kernel_rfl) (ao_loada Try.isAgg28 Try.sizeOf28 rfl (by exact HLp) (by rfl) (by exact RFp)) (implWay14_st_29 hw hwb hfb hp hfin _ _ ⟨_, rfl, hk0, hk1, hk2, hk3, hn, rfl, rfl, rfl, rfl⟩)
  · exact aa_oL (listed' := implWay14_l30) rfl rfl rfl rfl (by kernel_rfl) (ao_loada Try.isAgg31 Try.sizeOf31 rfl (by exact HLp) (by rfl) (by exact RFp)) (implWay14_st_30 hw hwb hfb hp hfin _ _ ⟨_, rfl, hk0, hk1, hk2, hk3, hn, rfl, rfl, rfl, rfl⟩)
  · exact aa_oL (listed' := implWay14_l31) rfl rfl rfl rfl (by kernel_rfl) (ao_loada Try.isAgg31 Try.sizeOf31 rfl (by exact HLp) (by rfl) (by exact RFp)) (implWay14_st_31 hw hwb hfb hp hfin _ _ ⟨_, rfl, hk0, hk1, hk2, hk3, hn, rfl, rfl, rfl, rfl⟩)
  · exact aa_oL (listed' := implWay14_l32) rfl rfl rfl rfl (by kernel_rfl) (ao_alloc1 Try.zeroValue60 rfl rfl) (implWay14_st_32 hw hwb hfb hp hfin _ _ ⟨_, rfl, G.next, hk0.push (by omega) _, blk_push_old hk1, blk_push_old hk2, blk_push_old hk3, Nat.le_succ_of_le hn, hn, Nat.lt_succ_self _, blk_push_new _ _, rfl, rfl, rfl, rfl⟩)
set_option maxHeartbeats 4000000 in
theorem implWay14_c {r : Room} {a b : Spot} {H : AHeap} {Q : Exit → AFr → AHeap → Prop} (hw : wfRoom r) (hwb : wfSpot b) (hfb : isFree r b) (hp : ∀ c fr G, ¬ Q (.panic c) fr G) (hfin : ∀ fr G, implWay14_J0 r a b H fr G → Q .normal fr G) : ∀ fr G, implWay14_J33 r a b H fr G → AA Try.prog ops_implWay14 Q (ops_implWay14).size (Array.replicate (ops_implWay14).size false) fr G := by
  rintro fr G ⟨get, rfl, hk0, hk1, hk2, hk3, hn, g3, g4, g5⟩
  refine aa_slot (d := 3) (v := .pointer (some ⟨H.next, 0, none⟩)) g3 ?_
  refine aa_slot (d := 4) (v := .pointer (some ⟨H.next + 1, 0, none⟩)) g4 ?_
  refine aa_slot (d := 5) (v := .pointer (some ⟨H.next + 2, 0, none⟩)) g5 ?_
  exact implWay14_st_33 hw hwb hfb hp hfin _ _ ⟨_, rfl, hk0, hk1, hk2, hk3, hn, rfl, rfl, rfl⟩
-- impl.WayBetween
theorem implWay1_c {r : Room} {a b : Spot} {v : Int} {H : AHeap} (hw : wfRoom r) (hwa : wfSpot a) (hwb : wfSpot b) (hcc : twoC r a b 0) (hv : mget (found r a) b = some v) : ACd Try.prog 9 [.agg (roomC r).toArray, .agg #[.int .i8 a.x, .int .i8 a.y], .agg #[.int .i8 b.x, .int .i8 b.y]] H (.tuple #[.slice (some ⟨H.next, 0, none⟩) (wayN r a b v.toNat).length ((wayN r a b v.toNat).length + 1), .int .i64 0]) (H.push (.cells (fl spot (wayN r a b v.toNat)) 2)) := by
  have ⟨hr, hfa, hfb⟩ := two_ok hcc
  have hwl := wayN_len r a b v.toNat
  have hv' := found_symm hfa hv
  have hvp := found_pos hfb hv'
  refine ac_gcs (vrl_fl spot_plain _) (ac_body Try.func9 rfl Try.ntmps9 rfl ?_)
  refine aw_seq ?_
  refine aw_region ?_
  refine al_opd rfl rfl rfl (ao_boxa (by rfl)) ?_
  refine al_opd rfl rfl rfl (ao_boxa (by rfl)) ?_
  refine al_opd rfl rfl rfl (ao_boxa (by rfl)) ?_
  refine al_opd rfl rfl rfl (ao_as (v := .slice _ _ _) rfl) ?_
  refine al_opd rfl rfl rfl (ao_as (v := .int _ _) rfl) ?_
  refine al_nilT ?_
  refine aw_seq ?_
  refine aw_seq ?_
  refine aw_region ?_
  refine al_opd rfl rfl rfl (ao_loada Try.isAgg28 Try.sizeOf28 rfl (by exact HLp) (by rfl) (by exact RFp)) ?_
  refine al_opd rfl rfl rfl (ao_loada Try.isAgg31 Try.sizeOf31 rfl (by exact HLp) (by rfl) (by exact RFp)) ?_
  refine al_opd rfl rfl rfl (ao_loada Try.isAgg31 Try.sizeOf31 rfl (by exact HLp) (by rfl) (by exact RFp)) ?_
  refine al_opd rfl rfl rfl (ao_calld (implSteps1b_c (r := r) (a := a) (b := b) (v := v) hw hwa hwb hcc hv) Try.call7 rfl rfl) ?_
  refine al_opd rfl rfl rfl (ao_mv (v := .tuple _) rfl) ?_
  refine al_opd rfl rfl rfl (ao_extract (v := .int _ _) rfl rfl) ?_
  refine al_opd rfl rfl rfl (ao_extract (v := .int _ _) rfl rfl) ?_
  refine al_opd rfl rfl rfl (ao_as (v := .int _ _) rfl) ?_
  refine al_opd rfl rfl rfl (ao_as (v := .int _ _) rfl) ?_
  refine al_nilT ?_
  refine aw_seq ?_
  refine aw_region ?_
  refine al_opd rfl rfl rfl (ao_mv (v := .int _ _) rfl) ?_
  refine al_opd rfl rfl rfl (ao_neq rfl rfl) ?_
  refine al_nilT ?_
  refine aw_cond rfl (fun h1_ => ?_) (fun h1_ => ?_)
  · try simp only [nrm] at h1_
    first | done | omega | (exfalso; revert h1_; simp; (first | done | omega))
  try simp only [nrm] at h1_
  refine aw_skipT ?_
  refine aw_seq ?_
  refine aw_cut (implWay14_J0 r a b H) ?_ ?_
  · exact aa_region mo (implWay14_c hw hwb hfb (fun _ _ _ h => h) (fun fr G h => thenA_n h) _ _ ⟨_, rfl, by exact SMp, by exact HLp, by exact HLp, by exact HLp, by exact LEp, rfl, rfl, rfl⟩)
  · rintro fr G ⟨get, rfl, b25, b27, b10, hk0, hk1, hk2, hk3, hn, hl25, hu25, hc25, hl27, hu27, hc27, hl10, hu10, hc10, he25_27, he25_10, he27_10, g3, g4, g5, g10, g11⟩
    refine aw_slot (d := 3) (v := .pointer (some ⟨H.next, 0, none⟩)) g3 ?_
    refine aw_slot (d := 4) (v := .pointer (some ⟨H.next + 1, 0, none⟩)) g4 ?_
    refine aw_slot (d := 5) (v := .pointer (some ⟨H.next + 2, 0, none⟩)) g5 ?_
    refine aw_slot (d := 10) (v := .pointer (some ⟨b10, 0, none⟩)) g10 ?_
    refine aw_slot (d := 11) (v := .slice (some ⟨b27, 0, none⟩) 1 1) g11 ?_
    refine aw_seq ?_
    refine aw_block ?_
    refine aw_loop (fun (gk : Nat) (fr : AFr) (G : AHeap) => ∃ get : Nat → Value, fr = ⟨43, get⟩ ∧ (∃ (k qb n c : Nat), (k : Int) ≤ v ∧ gk = v.toNat - k ∧ n = k + 1 ∧ n ≤ c ∧ Same H.next H G ∧ G.blk H.next = some (.cells (roomC r) 1) ∧ G.blk (H.next + 1) = some (.cells (spot (posW r a b k)) 1) ∧ G.blk (H.next + 2) = some (.cells (spot b) 1) ∧ G.blk b25 = some (mapB (found r b)) ∧ G.blk b10 = some (.cells [.map (some b25)] 1) ∧ b25 < G.next ∧ b10 < G.next ∧ H.next + 3 ≤ G.next ∧ qb ≠ b25 ∧ H.next + 3 ≤ qb ∧ qb < G.next ∧ qb ≠ b10 ∧ G.blk qb = some (.cells (fl spot (wayN r a b k)) 2) ∧ get 3 = .pointer (some ⟨H.next, 0, none⟩) ∧ get 4 = .pointer (some ⟨H.next + 1, 0, none⟩) ∧ get 5 = .pointer (some ⟨H.next + 2, 0, none⟩) ∧ get 10 = .pointer (some ⟨b10, 0, none⟩) ∧ get 11 = .slice (some ⟨qb, 0, none⟩) n c)) (v.toNat) ⟨_, rfl, ?_⟩ ?_
    · refine ⟨0, b27, 1, 1, by omega, rfl, rfl, Nat.le_refl _, by exact SMp, by exact HLp, by exact HLp, by exact HLp, by exact HLp, by exact HLp, ?_, ?_, ?_, ?_, ?_, ?_, ?_, by exact HLp, rfl, rfl, rfl, rfl, rfl⟩ <;> exact LNp
    · rintro gk fr G ⟨get, rfl, k, qb, n, c, hk, rfl, hn, hc, hG, hb0, hb1, hb2, hbm, hb5, hlm, hl5, hnx, hqm, hqb, hlt, hq5, hkb, g3, g4, g5, g10, g11⟩
      have hpk := pos_at hfb hv' k hk
      have hfk := found_free hfb hpk
      have hwk := wf_of_free hfk
      have hbl : (beside r (posW r a b k)).length ≤ 4 := beside_len r (posW r a b k) 4
      have hkl := keep_le (fun s => !candB r b (posW r a b k) s) (beside r (posW r a b k))
      refine aw_slot (d := 3) (v := .pointer (some ⟨H.next, 0, none⟩)) (by first | assumption | rfl) ?_
      refine aw_slot (d := 4) (v := .pointer (some ⟨H.next + 1, 0, none⟩)) (by first | assumption | rfl) ?_
      refine aw_slot (d := 5) (v := .pointer (some ⟨H.next + 2, 0, none⟩)) (by first | assumption | rfl) ?_
      refine aw_slot (d := 10) (v := .pointer (some ⟨b10, 0, none⟩)) (by first | assumption | rfl) ?_
      refine aw_slot (d := 11) (v := .slice (some ⟨qb, 0, none⟩) n c) (by first | assumption | rfl) ?_
      refine aw_seq ?_
      refine aw_seq ?_
      refine aw_region ?_
      refine al_opd rfl rfl rfl (ao_loada Try.isAgg31 Try.sizeOf31 rfl (by exact HLp) (by rfl) (by exact RFp)) ?_
      refine al_opd rfl rfl rfl (ao_loada Try.isAgg31 Try.sizeOf31 rfl (by exact HLp) (by rfl) (by exact RFp)) ?_
      refine al_opd rfl rfl rfl (ao_neV Try.eqGuardType31 rfl rfl rfl rfl (eqS31 _ _ _ _)) ?_
      refine al_nilT ?_
      refine aw_cond rfl (fun h2_ => ?_) (fun h2_ => ?_)
      · try simp only [nrm] at h2_
        have hkv := pos_lt hfb hv' hk h2_
        have hkc : (keepL (fun s => !candB r b (posW r a b k) s) (beside r (posW r a b k))) = (beside r (posW r a b k)).filter (candB r b (posW r a b k)) := keep_cand _ _
        have hkpos : 0 < (keepL (fun s => !candB r b (posW r a b k) s) (beside r (posW r a b k))).length := by rw [hkc]; exact List.length_pos_iff.mpr (cand_ne hfb hpk (by omega))
        have hkw : ∀ s ∈ (keepL (fun s => !candB r b (posW r a b k) s) (beside r (posW r a b k))), wfSpot s := fun s hs => beside_wf s (List.mem_filter.mp hs).1
        have hmn : headMin (keepL (fun s => !candB r b (posW r a b k) s) (beside r (posW r a b k))) ⟨-1, 0⟩ = nextW r b (posW r a b k) := by rw [hkc]; rfl
        refine aw_skipT ?_
        refine aw_block ?_
        refine aw_seq ?_
        refine aw_region ?_
        refine al_opd rfl rfl rfl (ao_loada Try.isAgg28 Try.sizeOf28 rfl (by exact HLp) (by rfl) (by exact RFp)) ?_
        refine al_opd rfl rfl rfl (ao_loada Try.isAgg31 Try.sizeOf31 rfl (by exact HLp) (by rfl) (by exact RFp)) ?_
        refine al_opd rfl rfl rfl (ao_calld (implBeside_c (r := r) (s := (posW r a b k)) hw hwk) Try.call34 rfl rfl) ?_
        refine al_opd rfl rfl rfl (ao_makeFunc rfl rfl) ?_
        refine al_opd rfl rfl rfl ((ao_calld (delF_c (fnum := 35) (fs := #[]) (cs := #[.pointer (some ⟨b10, 0, none⟩), .pointer (some ⟨H.next + 1, 0, none⟩)]) (l := (beside r (posW r a b k))) (p := (fun s => !candB r b (posW r a b k) s)) (lb := G.next) Try.call35 (fun G' s hm hoth => (by obtain ⟨u, hu, _⟩ := found_clo hfb hpk hm; exact wayB1_c (mb := b25) (u := u) ((hoth _ (by exact LNp) (by omega)).trans (by exact HLp)) ((hoth _ (by exact LNp) (by omega)).trans (by exact HLp)) ((hoth _ (by exact LNp) (by omega)).trans (by exact HLp)) hu hpk hfb)) (by exact HLp) (by omega)) Try.call33 rfl rfl).to (SetR.eq (by exact SRp))) ?_
        refine al_opd rfl rfl rfl (ao_as (v := .slice _ _ _) rfl) ?_
        refine al_nilT ?_
        refine aw_seq ?_
        refine aw_region ?_
        refine al_opd rfl rfl rfl (ao_mv (v := .slice _ _ _) rfl) ?_
        refine al_opd rfl rfl rfl (ao_calld (minF_c (l := (keepL (fun s => !candB r b (posW r a b k) s) (beside r (posW r a b k)))) (Sl.part (l := delL (fun s => !candB r b (posW r a b k) s) (beside r (posW r a b k))) (i := 0) spot_len (by exact HLp) rfl rfl rfl (del_take _ _) rfl) hkpos (by omega) hkw) Try.call36 rfl rfl) ?_
        first | refine al_opd rfl rfl rfl ((ao_storeL Try.sizeOf31 (by rfl) (by rfl) (by exact HLp) (by exact RFp) (by exact RFp) (by exact RFp)).to (SetR.eq (by exact SRp))) ?_ | refine al_opd rfl rfl rfl ((ao_storeP (ds := [.int _ _, .int _ _]) Try.sizeOf31 (by rfl) (by rfl) (by exact HLp) (by exact RFp) (by exact RFp) (by exact LTp)).to (SetR.eq (by exact SRp))) ?_
        refine al_nilT ?_
        refine aw_region ?_
        refine al_opd rfl rfl rfl (ao_mv (v := .slice _ _ _) rfl) ?_
        refine al_opd rfl rfl rfl (ao_loada Try.isAgg31 Try.sizeOf31 rfl (by exact HLp) (by rfl) (by exact RFp)) ?_
        refine al_opd rfl rfl rfl (ao_lit1 (v := .agg _) Try.underlying35 Try.sizeOf31 Try.zeroValue31 (by rfl) (by rfl) rfl rfl (by rfl) (by exact RFp)) ?_
        refine al_opd rfl rfl rfl (ao_appC Try.underlying35 ⟨_, Try.underlying35⟩ elem31 (by rfl) (by rfl) (by exact HLp) (by (rw [fl_len spot_len, wayN_len, hn]; omega)) (by exact SCp) (by first | rfl | simp [isOne]) (by exact BDp) (by exact BDp)) ?_
        refine al_opd rfl rfl rfl (ao_as (v := .slice _ _ _) rfl) ?_
        refine al_nilB ?_
        refine thenA_n ?_
        refine ⟨_, ?_, _, rfl, k + 1, _, n + 1, _, by omega, rfl, by omega, Nat.le_succ _, by exact SMp, by exact HLp, by show _ = some (ABlk.cells (spot (nextW r b (posW r a b k))) 1); rw [← hmn]; exact (by exact HLp), by exact HLp, by exact HLp, by exact HLp, ?_, ?_, ?_, ?_, ?_, ?_, ?_, by rw [wayN_succ, fl_snoc, ← hmn]; exact (by exact HLp), rfl, rfl, rfl, rfl, by rfl⟩
        · omega
        · exact LNp
        · exact LNp
        · exact LNp
        · exact LNp
        · exact LNp
        · exact LNp
        · exact LNp
      · try simp only [nrm] at h2_
        have hke := pos_eq hfb hv' hk h2_
        subst hke
        refine aw_exit ?_
        refine thenA_x ?_
        refine thenA_x ?_
        refine blockA_hit ?_
        refine thenA_n ?_
        refine aw_seq ?_
        refine aw_region ?_
        refine al_opd rfl rfl rfl (ao_mv (v := .slice _ _ _) rfl) ?_
        refine al_opd rfl rfl rfl (ao_as (v := .slice _ _ _) rfl) ?_
        refine al_opd rfl rfl rfl (ao_as (v := .int _ _) rfl) ?_
        refine al_nilT ?_
        refine aw_ret ?_
        refine ends2 rfl (rv_tmp (v := .slice _ _ _) rfl) (rv_tmp (v := .int _ _) rfl) ?_
        obtain rfl : n = (wayN r a b v.toNat).length := by omega
        exact ⟨hG, qb, by omega, hkb, fun ρ h => vr_tup2 (vr_sl h (by omega) (by omega)) (.int _ _)⟩

-- impl.WayBetween
theorem implWay6_c {r : Room} {a b : Spot} {H : AHeap} (hw : wfRoom r) (hwa : wfSpot a) (hwb : wfSpot b) (hcc : twoC r a b 0) (hv : mget (found r a) b = none) : ACd Try.prog 9 [.agg (roomC r).toArray, .agg #[.int .i8 a.x, .int .i8 a.y], .agg #[.int .i8 b.x, .int .i8 b.y]] H (.tuple #[.slice none 0 0, .int .i64 6]) (H) := by
  refine ac_gc0 (fun β => VR.plainT β (by first | rfl | simp [plainT, plainV, plain1])) (ac_body Try.func9 rfl Try.ntmps9 rfl ?_)
  refine aw_seq ?_
  refine aw_region ?_
  refine al_opd rfl rfl rfl (ao_boxa (by rfl)) ?_
  refine al_opd rfl rfl rfl (ao_boxa (by rfl)) ?_
  refine al_opd rfl rfl rfl (ao_boxa (by rfl)) ?_
  refine al_opd rfl rfl rfl (ao_as (v := .slice _ _ _) rfl) ?_
  refine al_opd rfl rfl rfl (ao_as (v := .int _ _) rfl) ?_
  refine al_nilT ?_
  refine aw_seq ?_
  refine aw_seq ?_
  refine aw_region ?_
  refine al_opd rfl rfl rfl (ao_loada Try.isAgg28 Try.sizeOf28 rfl (by exact HLp) (by rfl) (by exact RFp)) ?_
  refine al_opd rfl rfl rfl (ao_loada Try.isAgg31 Try.sizeOf31 rfl (by exact HLp) (by rfl) (by exact RFp)) ?_
  refine al_opd rfl rfl rfl (ao_loada Try.isAgg31 Try.sizeOf31 rfl (by exact HLp) (by rfl) (by exact RFp)) ?_
  refine al_opd rfl rfl rfl (ao_calld (implSteps6b_c (r := r) (a := a) (b := b) hw hwa hwb hcc hv) Try.call7 rfl rfl) ?_
  refine al_opd rfl rfl rfl (ao_mv (v := .tuple _) rfl) ?_
  refine al_opd rfl rfl rfl (ao_extract (v := .int _ _) rfl rfl) ?_
  refine al_opd rfl rfl rfl (ao_extract (v := .int _ _) rfl rfl) ?_
  refine al_opd rfl rfl rfl (ao_as (v := .int _ _) rfl) ?_
  refine al_opd rfl rfl rfl (ao_as (v := .int _ _) rfl) ?_
  refine al_nilT ?_
  refine aw_seq ?_
  refine aw_region ?_
  refine al_opd rfl rfl rfl (ao_mv (v := .int _ _) rfl) ?_
  refine al_opd rfl rfl rfl (ao_neq rfl rfl) ?_
  refine al_nilT ?_
  refine aw_cond rfl (fun h1_ => ?_) (fun h1_ => ?_)
  rotate_left
  · try simp only [nrm] at h1_
    first | done | omega | (exfalso; revert h1_; simp; (first | done | omega))
  try simp only [nrm] at h1_
  refine aw_seq ?_
  refine aw_region ?_
  refine al_opd rfl rfl rfl (ao_mv (v := .int _ _) rfl) ?_
  refine al_opd rfl rfl rfl (ao_as (v := .slice _ _ _) rfl) ?_
  refine al_opd rfl rfl rfl (ao_as (v := .int _ _) rfl) ?_
  refine al_nilT ?_
  refine aw_ret ?_
  refine thenA_r ?_
  refine ends2 rfl (rv_tmp (v := .slice _ _ _) rfl) (rv_tmp (v := .int _ _) rfl) ?_
  exact ⟨by first | rfl | (simp [*]; (first | done | fail)), by exact SMp⟩

end Go.Proofs.Ytmafkbminigbcaa
