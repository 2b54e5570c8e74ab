/- Contracts of the program's functions over abstract heaps. -/
import Derived.Test.YtmmmjdbknepjgaaDoorBfs4
import Derived.Test.YtmmmjdbknepjgaaDoorRy
namespace Go.Proofs.YtmmmjdbknepjgaaDoor
open Go Go.AW Go.Proofs
set_option linter.unusedVariables false
set_option linter.unusedSimpArgs false
set_option maxRecDepth 100000
set_option maxHeartbeats 2000000

theorem keySpot_c : KeyT Tryd.prog 48 spV where
  wide := by rw [Tryd.underlying48]
  eq := fun x y w => by
    show (Op.equalIn 10000 48 _ _).run Tryd.prog w = _
    rw [eqS48, spot_eq]
  check := fun x b w => by
    show (Instr.checkKey b (9999 + 1) 48 _).run Tryd.prog w = _
    have hk : ∀ (v : Int) (w : World), (Instr.checkKey b 9999 24 (.int .i8 v)).run Tryd.prog w = .ok () w := fun v w => by
      show (Instr.checkKey b (9998 + 1) 24 _).run Tryd.prog w = _
      unfold Instr.checkKey
      go_simp
    unfold Instr.checkKey
    go_simp
  plain := fun _ => rfl
  same := fun x => by
    show Instr.sameBits (9999 + 1) _ _ = true
    simp [Instr.sameBits]

def ops_implSteps1 : Array Oper := #[(Go.Oper.mk (some 12) (Go.Op.makeMap 93 none) 93 "l01_rooms.go:216" #[] none), (Go.Oper.mk (some 13) (Go.Op.load 48 (Go.Operand.tmp 3)) 48 "l01_rooms.go:216" #[] none), (Go.Oper.mk none (Go.Op.insert 93 (Go.Operand.tmp 12) (Go.Operand.tmp 13) (Go.Operand.const (Go.Value.int Go.IntKind.i64 0))) 0 "l01_rooms.go:216" #[(Go.Edge.mk 0 Go.Ground.data), (Go.Edge.mk 1 Go.Ground.data)] none), (Go.Oper.mk (some 14) (Go.Op.move (Go.Operand.tmp 12)) 93 "l01_rooms.go:216" #[(Go.Edge.mk 0 Go.Ground.data), (Go.Edge.mk 1 Go.Ground.data), (Go.Edge.mk 2 Go.Ground.data)] none), (Go.Oper.mk (some 15) (Go.Op.load 48 (Go.Operand.tmp 3)) 48 "l01_rooms.go:216" #[(Go.Edge.mk 6 (Go.Ground.gcOnly Go.Departure.lateStores))] none), (Go.Oper.mk (some 16) (Go.Op.buildSlice 37 1 #[(0, (Go.Operand.tmp 15))]) 37 "l01_rooms.go:216" #[(Go.Edge.mk 4 Go.Ground.data), (Go.Edge.mk 6 (Go.Ground.gcOnly Go.Departure.lateStores))] none), (Go.Oper.mk (some 5) (Go.Op.assign (Go.Operand.tmp 14)) 93 "l01_rooms.go:216" #[(Go.Edge.mk 3 Go.Ground.data), (Go.Edge.mk 0 Go.Ground.phase), (Go.Edge.mk 1 Go.Ground.phase), (Go.Edge.mk 2 Go.Ground.phase), (Go.Edge.mk 3 Go.Ground.phase), (Go.Edge.mk 4 (Go.Ground.textOnly Go.Departure.lateStores)), (Go.Edge.mk 5 (Go.Ground.textOnly Go.Departure.lateStores))] none), (Go.Oper.mk (some 6) (Go.Op.assign (Go.Operand.tmp 16)) 37 "l01_rooms.go:216" #[(Go.Edge.mk 5 Go.Ground.data), (Go.Edge.mk 6 Go.Ground.chain), (Go.Edge.mk 0 Go.Ground.phase), (Go.Edge.mk 1 Go.Ground.phase), (Go.Edge.mk 2 Go.Ground.phase), (Go.Edge.mk 3 Go.Ground.phase), (Go.Edge.mk 4 Go.Ground.phase), (Go.Edge.mk 5 Go.Ground.phase), (Go.Edge.mk 6 Go.Ground.phase)] none)]
abbrev implSteps1_l0 : Array Bool := #[true, true, true, true, true, true, true, true]
abbrev implSteps1_l1 : Array Bool := #[true, true, true, true, true, true, true, false]
abbrev implSteps1_l2 : Array Bool := #[true, true, true, true, true, true, false, false]
abbrev implSteps1_l3 : Array Bool := #[true, true, true, true, true, false, true, false]
abbrev implSteps1_l4 : Array Bool := #[true, true, true, true, true, false, false, false]
abbrev implSteps1_l5 : Array Bool := #[true, true, true, true, false, false, true, false]
abbrev implSteps1_l6 : Array Bool := #[true, true, true, false, true, true, false, false]
abbrev implSteps1_l7 : Array Bool := #[true, true, true, true, false, false, false, false]
abbrev implSteps1_l8 : Array Bool := #[true, true, true, false, true, false, false, false]
abbrev implSteps1_l9 : Array Bool := #[true, true, false, false, true, true, false, false]
abbrev implSteps1_l10 : Array Bool := #[true, true, true, false, false, false, false, false]
abbrev implSteps1_l11 : Array Bool := #[true, true, false, false, true, false, false, false]
abbrev implSteps1_l12 : Array Bool := #[true, false, false, false, true, true, false, false]
abbrev implSteps1_l13 : Array Bool := #[false, true, false, false, true, true, false, false]
abbrev implSteps1_l14 : Array Bool := #[true, true, false, false, false, false, false, false]
abbrev implSteps1_l15 : Array Bool := #[true, false, false, false, true, false, false, false]
abbrev implSteps1_l16 : Array Bool := #[false, true, false, false, true, false, false, false]
abbrev implSteps1_l17 : Array Bool := #[false, false, false, false, true, true, false, false]
abbrev implSteps1_l18 : Array Bool := #[true, false, false, false, false, false, false, false]
abbrev implSteps1_l19 : Array Bool := #[false, true, false, false, false, false, false, false]
abbrev implSteps1_l20 : Array Bool := #[false, false, false, false, true, false, false, false]
abbrev implSteps1_l21 : Array Bool := #[false, false, false, false, false, false, false, false]
abbrev implSteps1_J0 (r : Room) (s : Spot) (H : AHeap) (fr : AFr) (G : AHeap) : Prop := ∃ get : Nat → Value, fr = ⟨57, get⟩ ∧ ∃ (b12 b16 : Nat), Same H.next H G ∧ G.blk H.next = some (.cells (roomC r) 1) ∧ G.blk (H.next + 1) = some (.cells (spot s) 1) ∧ H.next + 2 ≤ G.next ∧ H.next + 2 ≤ b12 ∧ b12 < G.next ∧ G.blk b12 = some (mapB [(s, 0)]) ∧ H.next + 2 ≤ b16 ∧ b16 < G.next ∧ G.blk b16 = some (.cells (spot s) 2) ∧ b12 ≠ b16 ∧ get 2 = .pointer (some ⟨H.next, 0, none⟩) ∧ get 5 = .map (some b12) ∧ get 6 = .slice (some ⟨b16, 0, none⟩) 1 1
abbrev implSteps1_J1 (r : Room) (s : Spot) (H : AHeap) (fr : AFr) (G : AHeap) : Prop := ∃ get : Nat → Value, fr = ⟨57, get⟩ ∧ ∃ (b12 b16 : Nat), Same H.next H G ∧ G.blk H.next = some (.cells (roomC r) 1) ∧ G.blk (H.next + 1) = some (.cells (spot s) 1) ∧ H.next + 2 ≤ G.next ∧ H.next + 2 ≤ b12 ∧ b12 < G.next ∧ G.blk b12 = some (mapB [(s, 0)]) ∧ H.next + 2 ≤ b16 ∧ b16 < G.next ∧ G.blk b16 = some (.cells (spot s) 2) ∧ b12 ≠ b16 ∧ get 2 = .pointer (some ⟨H.next, 0, none⟩) ∧ get 16 = .slice (some ⟨b16, 0, none⟩) 1 1 ∧ get 5 = .map (some b12)
abbrev implSteps1_J2 (r : Room) (s : Spot) (H : AHeap) (fr : AFr) (G : AHeap) : Prop := ∃ get : Nat → Value, fr = ⟨57, get⟩ ∧ ∃ (b12 b16 : Nat), Same H.next H G ∧ G.blk H.next = some (.cells (roomC r) 1) ∧ G.blk (H.next + 1) = some (.cells (spot s) 1) ∧ H.next + 2 ≤ G.next ∧ H.next + 2 ≤ b12 ∧ b12 < G.next ∧ G.blk b12 = some (mapB [(s, 0)]) ∧ H.next + 2 ≤ b16 ∧ b16 < G.next ∧ G.blk b16 = some (.cells (spot s) 2) ∧ b12 ≠ b16 ∧ get 2 = .pointer (some ⟨H.next, 0, none⟩) ∧ get 14 = .map (some b12) ∧ get 16 = .slice (some ⟨b16, 0, none⟩) 1 1
abbrev implSteps1_J3 (r : Room) (s : Spot) (H : AHeap) (fr : AFr) (G : AHeap) : Prop := ∃ get : Nat → Value, fr = ⟨57, get⟩ ∧ ∃ (b12 : Nat), Same H.next H G ∧ G.blk H.next = some (.cells (roomC r) 1) ∧ G.blk (H.next + 1) = some (.cells (spot s) 1) ∧ H.next + 2 ≤ G.next ∧ H.next + 2 ≤ b12 ∧ b12 < G.next ∧ G.blk b12 = some (mapB [(s, 0)]) ∧ get 2 = .pointer (some ⟨H.next, 0, none⟩) ∧ get 15 = .agg #[.int .i8 s.x, .int .i8 s.y] ∧ get 5 = .map (some b12)
abbrev implSteps1_J4 (r : Room) (s : Spot) (H : AHeap) (fr : AFr) (G : AHeap) : Prop := ∃ get : Nat → Value, fr = ⟨57, get⟩ ∧ ∃ (b12 : Nat), Same H.next H G ∧ G.blk H.next = some (.cells (roomC r) 1) ∧ G.blk (H.next + 1) = some (.cells (spot s) 1) ∧ H.next + 2 ≤ G.next ∧ H.next + 2 ≤ b12 ∧ b12 < G.next ∧ G.blk b12 = some (mapB [(s, 0)]) ∧ get 2 = .pointer (some ⟨H.next, 0, none⟩) ∧ get 14 = .map (some b12) ∧ get 15 = .agg #[.int .i8 s.x, .int .i8 s.y]
abbrev implSteps1_J5 (r : Room) (s : Spot) (H : AHeap) (fr : AFr) (G : AHeap) : Prop := ∃ get : Nat → Value, fr = ⟨57, get⟩ ∧ ∃ (b12 : Nat), Same H.next H G ∧ G.blk H.next = some (.cells (roomC r) 1) ∧ G.blk (H.next + 1) = some (.cells (spot s) 1) ∧ H.next + 2 ≤ G.next ∧ H.next + 2 ≤ b12 ∧ b12 < G.next ∧ G.blk b12 = some (mapB [(s, 0)]) ∧ get 2 = .pointer (some ⟨H.next, 0, none⟩) ∧ get 3 = .pointer (some ⟨H.next + 1, 0, none⟩) ∧ get 5 = .map (some b12)
abbrev implSteps1_J6 (r : Room) (s : Spot) (H : AHeap) (fr : AFr) (G : AHeap) : Prop := ∃ get : Nat → Value, fr = ⟨57, get⟩ ∧ ∃ (b12 b16 : Nat), Same H.next H G ∧ G.blk H.next = some (.cells (roomC r) 1) ∧ G.blk (H.next + 1) = some (.cells (spot s) 1) ∧ H.next + 2 ≤ G.next ∧ H.next + 2 ≤ b12 ∧ b12 < G.next ∧ G.blk b12 = some (mapB [(s, 0)]) ∧ H.next + 2 ≤ b16 ∧ b16 < G.next ∧ G.blk b16 = some (.cells (spot s) 2) ∧ b12 ≠ b16 ∧ get 2 = .pointer (some ⟨H.next, 0, none⟩) ∧ get 12 = .map (some b12) ∧ get 16 = .slice (some ⟨b16, 0, none⟩) 1 1
abbrev implSteps1_J7 (r : Room) (s : Spot) (H : AHeap) (fr : AFr) (G : AHeap) : Prop := ∃ get : Nat → Value, fr = ⟨57, get⟩ ∧ ∃ (b12 : Nat), Same H.next H G ∧ G.blk H.next = some (.cells (roomC r) 1) ∧ G.blk (H.next + 1) = some (.cells (spot s) 1) ∧ H.next + 2 ≤ G.next ∧ H.next + 2 ≤ b12 ∧ b12 < G.next ∧ G.blk b12 = some (mapB [(s, 0)]) ∧ get 2 = .pointer (some ⟨H.next, 0, none⟩) ∧ get 3 = .pointer (some ⟨H.next + 1, 0, none⟩) ∧ get 14 = .map (some b12)
abbrev implSteps1_J8 (r : Room) (s : Spot) (H : AHeap) (fr : AFr) (G : AHeap) : Prop := ∃ get : Nat → Value, fr = ⟨57, get⟩ ∧ ∃ (b12 : Nat), Same H.next H G ∧ G.blk H.next = some (.cells (roomC r) 1) ∧ G.blk (H.next + 1) = some (.cells (spot s) 1) ∧ H.next + 2 ≤ G.next ∧ H.next + 2 ≤ b12 ∧ b12 < G.next ∧ G.blk b12 = some (mapB [(s, 0)]) ∧ get 2 = .pointer (some ⟨H.next, 0, none⟩) ∧ get 12 = .map (some b12) ∧ get 15 = .agg #[.int .i8 s.x, .int .i8 s.y]
abbrev implSteps1_J9 (r : Room) (s : Spot) (H : AHeap) (fr : AFr) (G : AHeap) : Prop := ∃ get : Nat → Value, fr = ⟨57, get⟩ ∧ ∃ (b12 b16 : Nat), Same H.next H G ∧ G.blk H.next = some (.cells (roomC r) 1) ∧ G.blk (H.next + 1) = some (.cells (spot s) 1) ∧ H.next + 2 ≤ G.next ∧ H.next + 2 ≤ b12 ∧ b12 < G.next ∧ G.blk b12 = some (mapB []) ∧ H.next + 2 ≤ b16 ∧ b16 < G.next ∧ G.blk b16 = some (.cells (spot s) 2) ∧ b12 ≠ b16 ∧ get 2 = .pointer (some ⟨H.next, 0, none⟩) ∧ get 12 = .map (some b12) ∧ get 13 = .agg #[.int .i8 s.x, .int .i8 s.y] ∧ get 16 = .slice (some ⟨b16, 0, none⟩) 1 1
abbrev implSteps1_J10 (r : Room) (s : Spot) (H : AHeap) (fr : AFr) (G : AHeap) : Prop := ∃ get : Nat → Value, fr = ⟨57, get⟩ ∧ ∃ (b12 : Nat), Same H.next H G ∧ G.blk H.next = some (.cells (roomC r) 1) ∧ G.blk (H.next + 1) = some (.cells (spot s) 1) ∧ H.next + 2 ≤ G.next ∧ H.next + 2 ≤ b12 ∧ b12 < G.next ∧ G.blk b12 = some (mapB [(s, 0)]) ∧ get 2 = .pointer (some ⟨H.next, 0, none⟩) ∧ get 3 = .pointer (some ⟨H.next + 1, 0, none⟩) ∧ get 12 = .map (some b12)
abbrev implSteps1_J11 (r : Room) (s : Spot) (H : AHeap) (fr : AFr) (G : AHeap) : Prop := ∃ get : Nat → Value, fr = ⟨57, get⟩ ∧ ∃ (b12 : Nat), Same H.next H G ∧ G.blk H.next = some (.cells (roomC r) 1) ∧ G.blk (H.next + 1) = some (.cells (spot s) 1) ∧ H.next + 2 ≤ G.next ∧ H.next + 2 ≤ b12 ∧ b12 < G.next ∧ G.blk b12 = some (mapB []) ∧ get 2 = .pointer (some ⟨H.next, 0, none⟩) ∧ get 12 = .map (some b12) ∧ get 13 = .agg #[.int .i8 s.x, .int .i8 s.y] ∧ get 15 = .agg #[.int .i8 s.x, .int .i8 s.y]
abbrev implSteps1_J12 (r : Room) (s : Spot) (H : AHeap) (fr : AFr) (G : AHeap) : Prop := ∃ get : Nat → Value, fr = ⟨57, get⟩ ∧ ∃ (b12 b16 : Nat), Same H.next H G ∧ G.blk H.next = some (.cells (roomC r) 1) ∧ G.blk (H.next + 1) = some (.cells (spot s) 1) ∧ H.next + 2 ≤ G.next ∧ H.next + 2 ≤ b12 ∧ b12 < G.next ∧ G.blk b12 = some (mapB []) ∧ H.next + 2 ≤ b16 ∧ b16 < G.next ∧ G.blk b16 = some (.cells (spot s) 2) ∧ b12 ≠ b16 ∧ get 2 = .pointer (some ⟨H.next, 0, none⟩) ∧ get 3 = .pointer (some ⟨H.next + 1, 0, none⟩) ∧ get 12 = .map (some b12) ∧ get 16 = .slice (some ⟨b16, 0, none⟩) 1 1
abbrev implSteps1_J13 (r : Room) (s : Spot) (H : AHeap) (fr : AFr) (G : AHeap) : Prop := ∃ get : Nat → Value, fr = ⟨57, get⟩ ∧ ∃ (b16 : Nat), Same H.next H G ∧ G.blk H.next = some (.cells (roomC r) 1) ∧ G.blk (H.next + 1) = some (.cells (spot s) 1) ∧ H.next + 2 ≤ G.next ∧ H.next + 2 ≤ b16 ∧ b16 < G.next ∧ G.blk b16 = some (.cells (spot s) 2) ∧ get 2 = .pointer (some ⟨H.next, 0, none⟩) ∧ get 13 = .agg #[.int .i8 s.x, .int .i8 s.y] ∧ get 16 = .slice (some ⟨b16, 0, none⟩) 1 1
abbrev implSteps1_J14 (r : Room) (s : Spot) (H : AHeap) (fr : AFr) (G : AHeap) : Prop := ∃ get : Nat → Value, fr = ⟨57, get⟩ ∧ ∃ (b12 : Nat), Same H.next H G ∧ G.blk H.next = some (.cells (roomC r) 1) ∧ G.blk (H.next + 1) = some (.cells (spot s) 1) ∧ H.next + 2 ≤ G.next ∧ H.next + 2 ≤ b12 ∧ b12 < G.next ∧ G.blk b12 = some (mapB []) ∧ get 2 = .pointer (some ⟨H.next, 0, none⟩) ∧ get 3 = .pointer (some ⟨H.next + 1, 0, none⟩) ∧ get 12 = .map (some b12) ∧ get 13 = .agg #[.int .i8 s.x, .int .i8 s.y]
abbrev implSteps1_J15 (r : Room) (s : Spot) (H : AHeap) (fr : AFr) (G : AHeap) : Prop := ∃ get : Nat → Value, fr = ⟨57, get⟩ ∧ ∃ (b12 : Nat), Same H.next H G ∧ G.blk H.next = some (.cells (roomC r) 1) ∧ G.blk (H.next + 1) = some (.cells (spot s) 1) ∧ H.next + 2 ≤ G.next ∧ H.next + 2 ≤ b12 ∧ b12 < G.next ∧ G.blk b12 = some (mapB []) ∧ get 2 = .pointer (some ⟨H.next, 0, none⟩) ∧ get 3 = .pointer (some ⟨H.next + 1, 0, none⟩) ∧ get 12 = .map (some b12) ∧ get 15 = .agg #[.int .i8 s.x, .int .i8 s.y]
abbrev implSteps1_J16 (r : Room) (s : Spot) (H : AHeap) (fr : AFr) (G : AHeap) : Prop := ∃ get : Nat → Value, fr = ⟨57, get⟩ ∧ Same H.next H G ∧ G.blk H.next = some (.cells (roomC r) 1) ∧ G.blk (H.next + 1) = some (.cells (spot s) 1) ∧ H.next + 2 ≤ G.next ∧ get 2 = .pointer (some ⟨H.next, 0, none⟩) ∧ get 13 = .agg #[.int .i8 s.x, .int .i8 s.y] ∧ get 15 = .agg #[.int .i8 s.x, .int .i8 s.y]
abbrev implSteps1_J17 (r : Room) (s : Spot) (H : AHeap) (fr : AFr) (G : AHeap) : Prop := ∃ get : Nat → Value, fr = ⟨57, get⟩ ∧ ∃ (b16 : Nat), Same H.next H G ∧ G.blk H.next = some (.cells (roomC r) 1) ∧ G.blk (H.next + 1) = some (.cells (spot s) 1) ∧ H.next + 2 ≤ G.next ∧ H.next + 2 ≤ b16 ∧ b16 < G.next ∧ G.blk b16 = some (.cells (spot s) 2) ∧ get 2 = .pointer (some ⟨H.next, 0, none⟩) ∧ get 3 = .pointer (some ⟨H.next + 1, 0, none⟩) ∧ get 16 = .slice (some ⟨b16, 0, none⟩) 1 1
abbrev implSteps1_J18 (r : Room) (s : Spot) (H : AHeap) (fr : AFr) (G : AHeap) : Prop := ∃ get : Nat → Value, fr = ⟨57, get⟩ ∧ ∃ (b12 : Nat), Same H.next H G ∧ G.blk H.next = some (.cells (roomC r) 1) ∧ G.blk (H.next + 1) = some (.cells (spot s) 1) ∧ H.next + 2 ≤ G.next ∧ H.next + 2 ≤ b12 ∧ b12 < G.next ∧ G.blk b12 = some (mapB []) ∧ get 2 = .pointer (some ⟨H.next, 0, none⟩) ∧ get 3 = .pointer (some ⟨H.next + 1, 0, none⟩) ∧ get 12 = .map (some b12)
abbrev implSteps1_J19 (r : Room) (s : Spot) (H : AHeap) (fr : AFr) (G : AHeap) : Prop := ∃ get : Nat → Value, fr = ⟨57, get⟩ ∧ Same H.next H G ∧ G.blk H.next = some (.cells (roomC r) 1) ∧ G.blk (H.next + 1) = some (.cells (spot s) 1) ∧ H.next + 2 ≤ G.next ∧ get 2 = .pointer (some ⟨H.next, 0, none⟩) ∧ get 3 = .pointer (some ⟨H.next + 1, 0, none⟩) ∧ get 13 = .agg #[.int .i8 s.x, .int .i8 s.y]
abbrev implSteps1_J20 (r : Room) (s : Spot) (H : AHeap) (fr : AFr) (G : AHeap) : Prop := ∃ get : Nat → Value, fr = ⟨57, get⟩ ∧ Same H.next H G ∧ G.blk H.next = some (.cells (roomC r) 1) ∧ G.blk (H.next + 1) = some (.cells (spot s) 1) ∧ H.next + 2 ≤ G.next ∧ get 2 = .pointer (some ⟨H.next, 0, none⟩) ∧ get 3 = .pointer (some ⟨H.next + 1, 0, none⟩) ∧ get 15 = .agg #[.int .i8 s.x, .int .i8 s.y]
abbrev implSteps1_J21 (r : Room) (s : Spot) (H : AHeap) (fr : AFr) (G : AHeap) : Prop := ∃ get : Nat → Value, fr = ⟨57, get⟩ ∧ Same H.next H G ∧ G.blk H.next = some (.cells (roomC r) 1) ∧ G.blk (H.next + 1) = some (.cells (spot s) 1) ∧ H.next + 2 ≤ G.next ∧ get 2 = .pointer (some ⟨H.next, 0, none⟩) ∧ get 3 = .pointer (some ⟨H.next + 1, 0, none⟩)
set_option maxHeartbeats 4000000 in
theorem implSteps1_st_0 {r : Room} {s : Spot} {H : AHeap} {Q : Exit → AFr → AHeap → Prop}  (hp : ∀ c fr G, ¬ Q (.panic c) fr G) (hfin : ∀ fr G, implSteps1_J0 r s H fr G → Q .normal fr G) : ∀ fr G, implSteps1_J0 r s H fr G → AA Tryd.prog ops_implSteps1 Q 0 implSteps1_l0 fr G := by
  exact fun fr G h => aa_done (by kernel_rfl) (hfin fr G h)
set_option maxHeartbeats 4000000 in
theorem implSteps1_st_1 {r : Room} {s : Spot} {H : AHeap} {Q : Exit → AFr → AHeap → Prop}  (hp : ∀ c fr G, ¬ Q (.panic c) fr G) (hfin : ∀ fr G, implSteps1_J0 r s H fr G → Q .normal fr G) : ∀ fr G, implSteps1_J1 r s H fr G → AA Tryd.prog ops_implSteps1 Q 1 implSteps1_l1 fr G := by
  rintro fr G ⟨get, rfl, b12, b16, hk0, hk1, hk2, hn, hl12, hu12, hc12, hl16, hu16, hc16, he12_16, g2, g16, g5⟩
  refine aa_slot (d := 2) (v := .pointer (some ⟨H.next, 0, none⟩)) g2 ?_
  refine aa_slot (d := 16) (v := .slice (some ⟨b16, 0, none⟩) 1 1) g16 ?_
  refine aa_slot (d := 5) (v := .map (some b12)) g5 ?_
  refine aax1 (i := 7) (by kernel_rfl) ?_
  · exact aa_oL (listed' := implSteps1_l0) rfl rfl rfl rfl (by kernel_rfl) (ao_as (v := .slice _ _ _) rfl) (implSteps1_st_0  hp hfin _ _ ⟨_, rfl, b12, b16, hk0, hk1, hk2, hn, hl12, hu12, hc12, hl16, hu16, hc16, he12_16, rfl, rfl, rfl⟩)
set_option maxHeartbeats 4000000 in
theorem implSteps1_st_2 {r : Room} {s : Spot} {H : AHeap} {Q : Exit → AFr → AHeap → Prop}  (hp : ∀ c fr G, ¬ Q (.panic c) fr G) (hfin : ∀ fr G, implSteps1_J0 r s H fr G → Q .normal fr G) : ∀ fr G, implSteps1_J2 r s H fr G → AA Tryd.prog ops_implSteps1 Q 2 implSteps1_l2 fr G := by
  rintro fr G ⟨get, rfl, b12, b16, hk0, hk1, hk2, hn, hl12, hu12, hc12, hl16, hu16, hc16, he12_16, g2, g14, g16⟩
  refine aa_slot (d := 2) (v := .pointer (some ⟨H.next, 0, none⟩)) g2 ?_
  refine aa_slot (d := 14) (v := .map (some b12)) g14 ?_
  refine aa_slot (d := 16) (v := .slice (some ⟨b16, 0, none⟩) 1 1) g16 ?_
  refine aax1 (i := 6) (by kernel_rfl) ?_
  · exact aa_oL (listed' := implSteps1_l1) rfl rfl rfl rfl (by kernel_rfl) (ao_as (v := .map _) rfl) (implSteps1_st_1  hp hfin _ _ ⟨_, rfl, b12, b16, hk0, hk1, hk2, hn, hl12, hu12, hc12, hl16, hu16, hc16, he12_16, rfl, rfl, rfl⟩)
set_option maxHeartbeats 4000000 in
theorem implSteps1_st_3 {r : Room} {s : Spot} {H : AHeap} {Q : Exit → AFr → AHeap → Prop}  (hp : ∀ c fr G, ¬ Q (.panic c) fr G) (hfin : ∀ fr G, implSteps1_J0 r s H fr G → Q .normal fr G) : ∀ fr G, implSteps1_J3 r s H fr G → AA Tryd.prog ops_implSteps1 Q 2 implSteps1_l3 fr G := by
  rintro fr G ⟨get, rfl, b12, hk0, hk1, hk2, hn, hl12, hu12, hc12, g2, g15, g5⟩
  refine aa_slot (d := 2) (v := .pointer (some ⟨H.next, 0, none⟩)) g2 ?_
  refine aa_slot (d := 15) (v := .agg #[.int .i8 s.x, .int .i8 s.y]) g15 ?_
  refine aa_slot (d := 5) (v := .map (some b12)) g5 ?_
  refine aax1 (i := 5) (by kernel_rfl) ?_
  · exact aa_oL (listed' := implSteps1_l1) rfl rfl rfl rfl (by kernel_rfl) (ao_lit1 (v := .agg _) Tryd.underlying37 Tryd.sizeOf48 Tryd.zeroValue48 (by rfl) (by rfl) rfl rfl (by rfl) (by exact RFp)) (implSteps1_st_1  hp hfin _ _ ⟨_, rfl, b12, G.next, hk0.push (by omega) _, blk_push_old hk1, blk_push_old hk2, Nat.le_succ_of_le hn, hl12, Nat.lt_succ_of_lt hu12, blk_push_old hc12, hn, Nat.lt_succ_self _, blk_push_new _ _, Nat.ne_of_lt hu12, rfl, rfl, rfl⟩)
set_option maxHeartbeats 4000000 in
theorem implSteps1_st_4 {r : Room} {s : Spot} {H : AHeap} {Q : Exit → AFr → AHeap → Prop}  (hp : ∀ c fr G, ¬ Q (.panic c) fr G) (hfin : ∀ fr G, implSteps1_J0 r s H fr G → Q .normal fr G) : ∀ fr G, implSteps1_J4 r s H fr G → AA Tryd.prog ops_implSteps1 Q 3 implSteps1_l4 fr G := by
  rintro fr G ⟨get, rfl, b12, hk0, hk1, hk2, hn, hl12, hu12, hc12, g2, g14, g15⟩
  refine aa_slot (d := 2) (v := .pointer (some ⟨H.next, 0, none⟩)) g2 ?_
  refine aa_slot (d := 14) (v := .map (some b12)) g14 ?_
  refine aa_slot (d := 15) (v := .agg #[.int .i8 s.x, .int .i8 s.y]) g15 ?_
  refine aax2 (i := 5) (j := 6) (by kernel_rfl) ?_ ?_
  · exact aa_oL (listed' := implSteps1_l2) rfl rfl rfl rfl (by kernel_rfl) (ao_lit1 (v := .agg _) Tryd.underlying37 Tryd.sizeOf48 Tryd.zeroValue48 (by rfl) (by rfl) rfl rfl (by rfl) (by exact RFp)) (implSteps1_st_2  hp hfin _ _ ⟨_, rfl, b12, G.next, hk0.push (by omega) _, blk_push_old hk1, blk_push_old hk2, Nat.le_succ_of_le hn, hl12, Nat.lt_succ_of_lt hu12, blk_push_old hc12, hn, Nat.lt_succ_self _, blk_push_new _ _, Nat.ne_of_lt hu12, rfl, rfl, rfl⟩)
  · exact aa_oL (listed' := implSteps1_l3) rfl rfl rfl rfl (by kernel_rfl) (ao_as (v := .map _) rfl) (implSteps1_st_3  hp hfin _ _ ⟨_, rfl, b12, hk0, hk1, hk2, hn, hl12, hu12, hc12, rfl, rfl, rfl⟩)
set_option maxHeartbeats 4000000 in
theorem implSteps1_st_5 {r : Room} {s : Spot} {H : AHeap} {Q : Exit → AFr → AHeap → Prop}  (hp : ∀ c fr G, ¬ Q (.panic c) fr G) (hfin : ∀ fr G, implSteps1_J0 r s H fr G → Q .normal fr G) : ∀ fr G, implSteps1_J5 r s H fr G → AA Tryd.prog ops_implSteps1 Q 3 implSteps1_l5 fr G := by
  rintro fr G ⟨get, rfl, b12, hk0, hk1, hk2, hn, hl12, hu12, hc12, g2, g3, g5⟩
  refine aa_slot (d := 2) (v := .pointer (some ⟨H.next, 0, none⟩)) g2 ?_
  refine aa_slot (d := 3) (v := .pointer (some ⟨H.next + 1, 0, none⟩)) g3 ?_
  refine aa_slot (d := 5) (v := .map (some b12)) g5 ?_
  refine aax1 (i := 4) (by kernel_rfl) ?_
  · exact aa_oL (listed' := implSteps1_l3) rfl rfl rfl rfl (by kernel_rfl) (ao_loada Tryd.isAgg48 Tryd.sizeOf48 rfl (by exact HLp) (by rfl) (by exact RFp)) (implSteps1_st_3  hp hfin _ _ ⟨_, rfl, b12, hk0, hk1, hk2, hn, hl12, hu12, hc12, rfl, rfl, rfl⟩)
set_option maxHeartbeats 4000000 in
theorem implSteps1_st_6 {r : Room} {s : Spot} {H : AHeap} {Q : Exit → AFr → AHeap → Prop}  (hp : ∀ c fr G, ¬ Q (.panic c) fr G) (hfin : ∀ fr G, implSteps1_J0 r s H fr G → Q .normal fr G) : ∀ fr G, implSteps1_J6 r s H fr G → AA Tryd.prog ops_implSteps1 Q 3 implSteps1_l6 fr G := by
  rintro fr G ⟨get, rfl, b12, b16, hk0, hk1, hk2, hn, hl12, hu12, hc12, hl16, hu16, hc16, he12_16, g2, g12, g16⟩
  refine aa_slot (d := 2) (v := .pointer (some ⟨H.next, 0, none⟩)) g2 ?_
  refine aa_slot (d := 12) (v := .map (some b12)) g12 ?_
  refine aa_slot (d := 16) (v := .slice (some ⟨b16, 0, none⟩) 1 1) g16 ?_
  refine aax1 (i := 3) (by kernel_rfl) ?_
  · exact aa_oL (listed' := implSteps1_l2) rfl rfl rfl rfl (by kernel_rfl) (ao_mv (v := .map _) rfl) (implSteps1_st_2  hp hfin _ _ ⟨_, rfl, b12, b16, hk0, hk1, hk2, hn, hl12, hu12, hc12, hl16, hu16, hc16, he12_16, rfl, rfl, rfl⟩)
set_option maxHeartbeats 4000000 in
theorem implSteps1_st_7 {r : Room} {s : Spot} {H : AHeap} {Q : Exit → AFr → AHeap → Prop}  (hp : ∀ c fr G, ¬ Q (.panic c) fr G) (hfin : ∀ fr G, implSteps1_J0 r s H fr G → Q .normal fr G) : ∀ fr G, implSteps1_J7 r s H fr G → AA Tryd.prog ops_implSteps1 Q 4 implSteps1_l7 fr G := by
  rintro fr G ⟨get, rfl, b12, hk0, hk1, hk2, hn, hl12, hu12, hc12, g2, g3, g14⟩
  refine aa_slot (d := 2) (v := .pointer (some ⟨H.next, 0, none⟩)) g2 ?_
  refine aa_slot (d := 3) (v := .pointer (some ⟨H.next + 1, 0, none⟩)) g3 ?_
  refine aa_slot (d := 14) (v := .map (some b12)) g14 ?_
  refine aax2 (i := 4) (j := 6) (by kernel_rfl) ?_ ?_
  · exact aa_oL (listed' := implSteps1_l4) rfl rfl rfl rfl (by kernel_rfl) (ao_loada Tryd.isAgg48 Tryd.sizeOf48 rfl (by exact HLp) (by rfl) (by exact RFp)) (implSteps1_st_4  hp hfin _ _ ⟨_, rfl, b12, hk0, hk1, hk2, hn, hl12, hu12, hc12, rfl, rfl, rfl⟩)
  · exact aa_oL (listed' := implSteps1_l5) rfl rfl rfl rfl (by kernel_rfl) (ao_as (v := .map _) rfl) (implSteps1_st_5  hp hfin _ _ ⟨_, rfl, b12, hk0, hk1, hk2, hn, hl12, hu12, hc12, rfl, rfl, rfl⟩)
set_option maxHeartbeats 4000000 in
theorem implSteps1_st_8 {r : Room} {s : Spot} {H : AHeap} {Q : Exit → AFr → AHeap → Prop}  (hp : ∀ c fr G, ¬ Q (.panic c) fr G) (hfin : ∀ fr G, implSteps1_J0 r s H fr G → Q .normal fr G) : ∀ fr G, implSteps1_J8 r s H fr G → AA Tryd.prog ops_implSteps1 Q 4 implSteps1_l8 fr G := by
  rintro fr G ⟨get, rfl, b12, hk0, hk1, hk2, hn, hl12, hu12, hc12, g2, g12, g15⟩
  refine aa_slot (d := 2) (v := .pointer (some ⟨H.next, 0, none⟩)) g2 ?_
  refine aa_slot (d := 12) (v := .map (some b12)) g12 ?_
  refine aa_slot (d := 15) (v := .agg #[.int .i8 s.x, .int .i8 s.y]) g15 ?_
  refine aax2 (i := 3) (j := 5) (by kernel_rfl) ?_ ?_
  · exact aa_oL (listed' := implSteps1_l4) rfl rfl rfl rfl (by kernel_rfl) (ao_mv (v := .map _) rfl) (implSteps1_st_4  hp hfin _ _ ⟨_, rfl, b12, hk0, hk1, hk2, hn, hl12, hu12, hc12, rfl, rfl, rfl⟩)
  · exact aa_oL (listed' := implSteps1_l6) rfl rfl rfl rfl (by kernel_rfl) (ao_lit1 (v := .agg _) Tryd.underlying37 Tryd.sizeOf48 Tryd.zeroValue48 (by rfl) (by rfl) rfl rfl (by rfl) (by exact RFp)) (implSteps1_st_6  hp hfin _ _ ⟨_, rfl, b12, G.next, hk0.push (by omega) _, blk_push_old hk1, blk_push_old hk2, Nat.le_succ_of_le hn, hl12, Nat.lt_succ_of_lt hu12, blk_push_old hc12, hn, Nat.lt_succ_self _, blk_push_new _ _, Nat.ne_of_lt hu12, rfl, rfl, rfl⟩)
set_option maxHeartbeats 4000000 in
theorem implSteps1_st_9 {r : Room} {s : Spot} {H : AHeap} {Q : Exit → AFr → AHeap → Prop}  (hp : ∀ c fr G, ¬ Q (.panic c) fr G) (hfin : ∀ fr G, implSteps1_J0 r s H fr G → Q .normal fr G) : ∀ fr G, implSteps1_J9 r s H fr G → AA Tryd.prog ops_implSteps1 Q 4 implSteps1_l9 fr G := by
  rintro fr G ⟨get, rfl, b12, b16, hk0, hk1, hk2, hn, hl12, hu12, hc12, hl16, hu16, hc16, he12_16, g2, g12, g13, g16⟩
  refine aa_slot (d := 2) (v := .pointer (some ⟨H.next, 0, none⟩)) g2 ?_
  refine aa_slot (d := 12) (v := .map (some b12)) g12 ?_
  refine aa_slot (d := 13) (v := .agg #[.int .i8 s.x, .int .i8 s.y]) g13 ?_
  refine aa_slot (d := 16) (v := .slice (some ⟨b16, 0, none⟩) 1 1) g16 ?_
  refine aax1 (i := 2) (by kernel_rfl) ?_
  · exact aa_oL (listed' := implSteps1_l6) rfl rfl rfl rfl (by kernel_rfl) (ao_mapIns (m := []) (k := s) (v := 0) (ke := spV) (ve := ivV) Tryd.underlying93 keySpot_c (fun _ => rfl) (by rfl) (by rfl) (by rfl) (by exact HLp) rfl) (implSteps1_st_6  hp hfin _ _ ⟨_, rfl, b12, b16, hk0.set (by omega) _, (blk_set_ne (by omega)).trans hk1, (blk_set_ne (by omega)).trans hk2, hn, hl12, hu12, blk_set_same hc12, hl16, hu16, (blk_set_ne (Ne.symm he12_16)).trans hc16, he12_16, rfl, rfl, rfl⟩)
set_option maxHeartbeats 4000000 in
theorem implSteps1_st_10 {r : Room} {s : Spot} {H : AHeap} {Q : Exit → AFr → AHeap → Prop}  (hp : ∀ c fr G, ¬ Q (.panic c) fr G) (hfin : ∀ fr G, implSteps1_J0 r s H fr G → Q .normal fr G) : ∀ fr G, implSteps1_J10 r s H fr G → AA Tryd.prog ops_implSteps1 Q 5 implSteps1_l10 fr G := by
  rintro fr G ⟨get, rfl, b12, hk0, hk1, hk2, hn, hl12, hu12, hc12, g2, g3, g12⟩
  refine aa_slot (d := 2) (v := .pointer (some ⟨H.next, 0, none⟩)) g2 ?_
  refine aa_slot (d := 3) (v := .pointer (some ⟨H.next + 1, 0, none⟩)) g3 ?_
  refine aa_slot (d := 12) (v := .map (some b12)) g12 ?_
  refine aax2 (i := 3) (j := 4) (by kernel_rfl) ?_ ?_
  · exact aa_oL (listed' := implSteps1_l7) rfl rfl rfl rfl (by kernel_rfl) (ao_mv (v := .map _) rfl) (implSteps1_st_7  hp hfin _ _ ⟨_, rfl, b12, hk0, hk1, hk2, hn, hl12, hu12, hc12, rfl, rfl, rfl⟩)
  · exact aa_oL (listed' := implSteps1_l8) rfl rfl rfl rfl (by kernel_rfl) (ao_loada Tryd.isAgg48 Tryd.sizeOf48 rfl (by exact HLp) (by rfl) (by exact RFp)) (implSteps1_st_8  hp hfin _ _ ⟨_, rfl, b12, hk0, hk1, hk2, hn, hl12, hu12, hc12, rfl, rfl, rfl⟩)
set_option maxHeartbeats 4000000 in
theorem implSteps1_st_11 {r : Room} {s : Spot} {H : AHeap} {Q : Exit → AFr → AHeap → Prop}  (hp : ∀ c fr G, ¬ Q (.panic c) fr G) (hfin : ∀ fr G, implSteps1_J0 r s H fr G → Q .normal fr G) : ∀ fr G, implSteps1_J11 r s H fr G → AA Tryd.prog ops_implSteps1 Q 5 implSteps1_l11 fr G := by
  rintro fr G ⟨get, rfl, b12, hk0, hk1, hk2, hn, hl12, hu12, hc12, g2, g12, g13, g15⟩
  refine aa_slot (d := 2) (v := .pointer (some ⟨H.next, 0, none⟩)) g2 ?_
  refine aa_slot (d := 12) (v := .map (some b12)) g12 ?_
  refine aa_slot (d := 13) (v := .agg #[.int .i8 s.x, .int .i8 s.y]) g13 ?_
  refine aa_slot (d := 15) (v := .agg #[.int .i8 s.x, .int .i8 s.y]) g15 ?_
  refine aax2 (i := 2) (j := 5) (by kernel_rfl) ?_ ?_
  · exact aa_oL (listed' := implSteps1_l8) rfl rfl rfl rfl (by kernel_rfl) (ao_mapIns (m := []) (k := s) (v := 0) (ke := spV) (ve := ivV) Tryd.underlying93 keySpot_c (fun _ => rfl) (by rfl) (by rfl) (by rfl) (by exact HLp) rfl) (implSteps1_st_8  hp hfin _ _ ⟨_, rfl, b12, hk0.set (by omega) _, (blk_set_ne (by omega)).trans hk1, (blk_set_ne (by omega)).trans hk2, hn, hl12, hu12, blk_set_same hc12, rfl, rfl, rfl⟩)
  · exact aa_oL (listed' := implSteps1_l9) rfl rfl rfl rfl (by kernel_rfl) (ao_lit1 (v := .agg _) Tryd.underlying37 Tryd.sizeOf48 Tryd.zeroValue48 (by rfl) (by rfl) rfl rfl (by rfl) (by exact RFp)) (implSteps1_st_9  hp hfin _ _ ⟨_, rfl, b12, G.next, hk0.push (by omega) _, blk_push_old hk1, blk_push_old hk2, Nat.le_succ_of_le hn, hl12, Nat.lt_succ_of_lt hu12, blk_push_old hc12, hn, Nat.lt_succ_self _, blk_push_new _ _, Nat.ne_of_lt hu12, rfl, rfl, rfl, rfl⟩)
set_option maxHeartbeats 4000000 in
theorem implSteps1_st_12 {r : Room} {s : Spot} {H : AHeap} {Q : Exit → AFr → AHeap → Prop}  (hp : ∀ c fr G, ¬ Q (.panic c) fr G) (hfin : ∀ fr G, implSteps1_J0 r s H fr G → Q .normal fr G) : ∀ fr G, implSteps1_J12 r s H fr G → AA Tryd.prog ops_implSteps1 Q 5 implSteps1_l12 fr G := by
  rintro fr G ⟨get, rfl, b12, b16, hk0, hk1, hk2, hn, hl12, hu12, hc12, hl16, hu16, hc16, he12_16, g2, g3, g12, g16⟩
  refine aa_slot (d := 2) (v := .pointer (some ⟨H.next, 0, none⟩)) g2 ?_
  refine aa_slot (d := 3) (v := .pointer (some ⟨H.next + 1, 0, none⟩)) g3 ?_
  refine aa_slot (d := 12) (v := .map (some b12)) g12 ?_
  refine aa_slot (d := 16) (v := .slice (some ⟨b16, 0, none⟩) 1 1) g16 ?_
  refine aax1 (i := 1) (by kernel_rfl) ?_
  · exact aa_oL (listed' := implSteps1_l9) rfl rfl rfl rfl (by kernel_rfl) (ao_loada Tryd.isAgg48 Tryd.sizeOf48 rfl (by exact HLp) (by rfl) (by exact RFp)) (implSteps1_st_9  hp hfin _ _ ⟨_, rfl, b12, b16, hk0, hk1, hk2, hn, hl12, hu12, hc12, hl16, hu16, hc16, he12_16, rfl, rfl, rfl, rfl⟩)
set_option maxHeartbeats 4000000 in
theorem implSteps1_st_13 {r : Room} {s : Spot} {H : AHeap} {Q : Exit → AFr → AHeap → Prop}  (hp : ∀ c fr G, ¬ Q (.panic c) fr G) (hfin : ∀ fr G, implSteps1_J0 r s H fr G → Q .normal fr G) : ∀ fr G, implSteps1_J13 r s H fr G → AA Tryd.prog ops_implSteps1 Q 5 implSteps1_l13 fr G := by
  rintro fr G ⟨get, rfl, b16, hk0, hk1, hk2, hn, hl16, hu16, hc16, g2, g13, g16⟩
  refine aa_slot (d := 2) (v := .pointer (some ⟨H.next, 0, none⟩)) g2 ?_
  refine aa_slot (d := 13) (v := .agg #[.int .i8 s.x, .int .i8 s.y]) g13 ?_
  refine aa_slot (d := 16) (v := .slice (some ⟨b16, 0, none⟩) 1 1) g16 ?_
  refine aax1 (i := 0) (by kernel_rfl) ?_
  · exact aa_oL (listed' := implSteps1_l9) rfl rfl rfl rfl (by kernel_rfl) (ao_makeMap) (implSteps1_st_9  hp hfin _ _ ⟨_, rfl, G.next, b16, hk0.push (by omega) _, blk_push_old hk1, blk_push_old hk2, Nat.le_succ_of_le hn, hn, Nat.lt_succ_self _, blk_push_new _ _, hl16, Nat.lt_succ_of_lt hu16, blk_push_old hc16, (Nat.ne_of_gt hu16), rfl, rfl, rfl, rfl⟩)
set_option maxHeartbeats 4000000 in
theorem implSteps1_st_14 {r : Room} {s : Spot} {H : AHeap} {Q : Exit → AFr → AHeap → Prop}  (hp : ∀ c fr G, ¬ Q (.panic c) fr G) (hfin : ∀ fr G, implSteps1_J0 r s H fr G → Q .normal fr G) : ∀ fr G, implSteps1_J14 r s H fr G → AA Tryd.prog ops_implSteps1 Q 6 implSteps1_l14 fr G := by
  rintro fr G ⟨get, rfl, b12, hk0, hk1, hk2, hn, hl12, hu12, hc12, g2, g3, g12, g13⟩
  refine aa_slot (d := 2) (v := .pointer (some ⟨H.next, 0, none⟩)) g2 ?_
  refine aa_slot (d := 3) (v := .pointer (some ⟨H.next + 1, 0, none⟩)) g3 ?_
  refine aa_slot (d := 12) (v := .map (some b12)) g12 ?_
  refine aa_slot (d := 13) (v := .agg #[.int .i8 s.x, .int .i8 s.y]) g13 ?_
  refine aax2 (i := 2) (j := 4) (by kernel_rfl) ?_ ?_
  · exact aa_oL (listed' := implSteps1_l10) rfl rfl rfl rfl (by kernel_rfl) (ao_mapIns (m := []) (k := s) (v := 0) (ke := spV) (ve := ivV) Tryd.underlying93 keySpot_c (fun _ => rfl) (by rfl) (by rfl) (by rfl) (by exact HLp) rfl) (implSteps1_st_10  hp hfin _ _ ⟨_, rfl, b12, hk0.set (by omega) _, (blk_set_ne (by omega)).trans hk1, (blk_set_ne (by omega)).trans hk2, hn, hl12, hu12, blk_set_same hc12, rfl, rfl, rfl⟩)
  · exact aa_oL (listed' := implSteps1_l11) rfl rfl rfl rfl (by kernel_rfl) (ao_loada Tryd.isAgg48 Tryd.sizeOf48 rfl (by exact HLp) (by rfl) (by exact RFp)) (implSteps1_st_11  hp hfin _ _ ⟨_, rfl, b12, hk0, hk1, hk2, hn, hl12, hu12, hc12, rfl, rfl, rfl, rfl⟩)
set_option maxHeartbeats 4000000 in
theorem implSteps1_st_15 {r : Room} {s : Spot} {H : AHeap} {Q : Exit → AFr → AHeap → Prop}  (hp : ∀ c fr G, ¬ Q (.panic c) fr G) (hfin : ∀ fr G, implSteps1_J0 r s H fr G → Q .normal fr G) : ∀ fr G, implSteps1_J15 r s H fr G → AA Tryd.prog ops_implSteps1 Q 6 implSteps1_l15 fr G := by
  rintro fr G ⟨get, rfl, b12, hk0, hk1, hk2, hn, hl12, hu12, hc12, g2, g3, g12, g15⟩
  refine aa_slot (d := 2) (v := .pointer (some ⟨H.next, 0, none⟩)) g2 ?_
  refine aa_slot (d := 3) (v := .pointer (some ⟨H.next + 1, 0, none⟩)) g3 ?_
  refine aa_slot (d := 12) (v := .map (some b12)) g12 ?_
  refine aa_slot (d := 15) (v := .agg #[.int .i8 s.x, .int .i8 s.y]) g15 ?_
  refine aax2 (i := 1) (j := 5) (by kernel_rfl) ?_ ?_
  · exact aa_oL (listed' := implSteps1_l11) rfl rfl rfl rfl (by kernel_rfl) (ao_loada Tryd.isAgg48 Tryd.sizeOf48 rfl (by exact HLp) (by rfl) (by exact RFp)) (implSteps1_st_11  hp hfin _ _ ⟨_, rfl, b12, hk0, hk1, hk2, hn, hl12, hu12, hc12, rfl, rfl, rfl, rfl⟩)
  · exact aa_oL (listed' := implSteps1_l12) rfl rfl rfl rfl (by kernel_rfl) (ao_lit1 (v := .agg _) Tryd.underlying37 Tryd.sizeOf48 Tryd.zeroValue48 (by rfl) (by rfl) rfl rfl (by rfl) (by exact RFp)) (implSteps1_st_12  hp hfin _ _ ⟨_, rfl, b12, G.next, hk0.push (by omega) _, blk_push_old hk1, blk_push_old hk2, Nat.le_succ_of_le hn, hl12, Nat.lt_succ_of_lt hu12, blk_push_old hc12, hn, Nat.lt_succ_self _, blk_push_new _ _, Nat.ne_of_lt hu12, rfl, rfl, rfl, rfl⟩)
set_option maxHeartbeats 4000000 in
theorem implSteps1_st_16 {r : Room} {s : Spot} {H : AHeap} {Q : Exit → AFr → AHeap → Prop}  (hp : ∀ c fr G, ¬ Q (.panic c) fr G) (hfin : ∀ fr G, implSteps1_J0 r s H fr G → Q .normal fr G) : ∀ fr G, implSteps1_J16 r s H fr G → AA Tryd.prog ops_implSteps1 Q 6 implSteps1_l16 fr G := by
  rintro fr G ⟨get, rfl, hk0, hk1, hk2, hn, g2, g13, g15⟩
  refine aa_slot (d := 2) (v := .pointer (some ⟨H.next, 0, none⟩)) g2 ?_
  refine aa_slot (d := 13) (v := .agg #[.int .i8 s.x, .int .i8 s.y]) g13 ?_
  refine aa_slot (d := 15) (v := .agg #[.int .i8 s.x, .int .i8 s.y]) g15 ?_
  refine aax2 (i := 0) (j := 5) (by kernel_rfl) ?_ ?_
  · exact aa_oL (listed' := implSteps1_l11) rfl rfl rfl rfl (by kernel_rfl) (ao_makeMap) (implSteps1_st_11  hp hfin _ _ ⟨_, rfl, G.next, hk0.push (by omega) _, blk_push_old hk1, blk_push_old hk2, Nat.le_succ_of_le hn, hn, Nat.lt_succ_self _, blk_push_new _ _, rfl, rfl, rfl, rfl⟩)
  · exact aa_oL (listed' := implSteps1_l13) rfl rfl rfl rfl (by kernel_rfl) (ao_lit1 (v := .agg _) Tryd.underlying37 Tryd.sizeOf48 Tryd.zeroValue48 (by rfl) (by rfl) rfl rfl (by rfl) (by exact RFp)) (implSteps1_st_13  hp hfin _ _ ⟨_, rfl, G.next, hk0.push (by omega) _, blk_push_old hk1, blk_push_old hk2, Nat.le_succ_of_le hn, hn, Nat.lt_succ_self _, blk_push_new _ _, rfl, rfl, rfl⟩)
set_option maxHeartbeats 4000000 in
theorem implSteps1_st_17 {r : Room} {s : Spot} {H : AHeap} {Q : Exit → AFr → AHeap → Prop}  (hp : ∀ c fr G, ¬ Q (.panic c) fr G) (hfin : ∀ fr G, implSteps1_J0 r s H fr G → Q .normal fr G) : ∀ fr G, implSteps1_J17 r s H fr G → AA Tryd.prog ops_implSteps1 Q 6 implSteps1_l17 fr G := by
  rintro fr G ⟨get, rfl, b16, hk0, hk1, hk2, hn, hl16, hu16, hc16, g2, g3, g16⟩
  refine aa_slot (d := 2) (v := .pointer (some ⟨H.next, 0, none⟩)) g2 ?_
  refine aa_slot (d := 3) (v := .pointer (some ⟨H.next + 1, 0, none⟩)) g3 ?_
  refine aa_slot (d := 16) (v := .slice (some ⟨b16, 0, none⟩) 1 1) g16 ?_
  refine aax2 (i := 0) (j := 1) (by kernel_rfl) ?_ ?_
  · exact aa_oL (listed' := implSteps1_l12) rfl rfl rfl rfl (by kernel_rfl) (ao_makeMap) (implSteps1_st_12  hp hfin _ _ ⟨_, rfl, G.next, b16, hk0.push (by omega) _, blk_push_old hk1, blk_push_old hk2, Nat.le_succ_of_le hn, hn, Nat.lt_succ_self _, blk_push_new _ _, hl16, Nat.lt_succ_of_lt hu16, blk_push_old hc16, (Nat.ne_of_gt hu16), rfl, rfl, rfl, rfl⟩)
  · exact aa_oL (listed' := implSteps1_l13) rfl rfl rfl rfl (by kernel_rfl) (ao_loada Tryd.isAgg48 Tryd.sizeOf48 rfl (by exact HLp) (by rfl) (by exact RFp)) (implSteps1_st_13  hp hfin _ _ ⟨_, rfl, b16, hk0, hk1, hk2, hn, hl16, hu16, hc16, rfl, rfl, rfl⟩)
set_option maxHeartbeats 4000000 in
theorem implSteps1_st_18 {r : Room} {s : Spot} {H : AHeap} {Q : Exit → AFr → AHeap → Prop}  (hp : ∀ c fr G, ¬ Q (.panic c) fr G) (hfin : ∀ fr G, implSteps1_J0 r s H fr G → Q .normal fr G) : ∀ fr G, implSteps1_J18 r s H fr G → AA Tryd.prog ops_implSteps1 Q 7 implSteps1_l18 fr G := by
  rintro fr G ⟨get, rfl, b12, hk0, hk1, hk2, hn, hl12, hu12, hc12, g2, g3, g12⟩
  refine aa_slot (d := 2) (v := .pointer (some ⟨H.next, 0, none⟩)) g2 ?_
  refine aa_slot (d := 3) (v := .pointer (some ⟨H.next + 1, 0, none⟩)) g3 ?_
  refine aa_slot (d := 12) (v := .map (some b12)) g12 ?_
  refine aax2 (i := 1) (j := 4) (by kernel_rfl) ?_ ?_
  · exact aa_oL (listed' := implSteps1_l14) rfl rfl rfl rfl (by kernel_rfl) (ao_loada Tryd.isAgg48 Tryd.sizeOf48 rfl (by exact HLp) (by rfl) (by exact RFp)) (implSteps1_st_14  hp hfin _ _ ⟨_, rfl, b12, hk0, hk1, hk2, hn, hl12, hu12, hc12, rfl, rfl, rfl, rfl⟩)
  · exact aa_oL (listed' := implSteps1_l15) rfl rfl rfl rfl (by kernel_rfl) (ao_loada Tryd.isAgg48 Tryd.sizeOf48 rfl (by exact HLp) (by rfl) (by exact RFp)) (implSteps1_st_15  hp hfin _ _ ⟨_, rfl, b12, hk0, hk1, hk2, hn, hl12, hu12, hc12, rfl, rfl, rfl, rfl⟩)
set_option maxHeartbeats 4000000 in
theorem implSteps1_st_19 {r : Room} {s : Spot} {H : AHeap} {Q : Exit → AFr → AHeap → Prop}  (hp : ∀ c fr G, ¬ Q (.panic c) fr G) (hfin : ∀ fr G, implSteps1_J0 r s H fr G → Q .normal fr G) : ∀ fr G, implSteps1_J19 r s H fr G → AA Tryd.prog ops_implSteps1 Q 7 implSteps1_l19 fr G := by
  rintro fr G ⟨get, rfl, hk0, hk1, hk2, hn, g2, g3, g13⟩
  refine aa_slot (d := 2) (v := .pointer (some ⟨H.next, 0, none⟩)) g2 ?_
  refine aa_slot (d := 3) (v := .pointer (some ⟨H.next + 1, 0, none⟩)) g3 ?_
  refine aa_slot (d := 13) (v := .agg #[.int .i8 s.x, .int .i8 s.y]) g13 ?_
  refine aax2 (i := 0) (j := 4) (by kernel_rfl) ?_ ?_
  · exact aa_oL (listed' := implSteps1_l14) rfl rfl rfl rfl (by kernel_rfl) (ao_makeMap) (implSteps1_st_14  hp hfin _ _ ⟨_, rfl, G.next, hk0.push (by omega) _, blk_push_old hk1, blk_push_old hk2, Nat.le_succ_of_le hn, hn, Nat.lt_succ_self _, blk_push_new _ _, rfl, rfl, rfl, rfl⟩)
  · exact aa_oL (listed' := implSteps1_l16) rfl rfl rfl rfl (by kernel_rfl) (ao_loada Tryd.isAgg48 Tryd.sizeOf48 rfl (by exact HLp) (by rfl) (by exact RFp)) (implSteps1_st_16  hp hfin _ _ ⟨_, rfl, hk0, hk1, hk2, hn, rfl, rfl, rfl⟩)
set_option maxHeartbeats 4000000 in
theorem implSteps1_st_20 {r : Room} {s : Spot} {H : AHeap} {Q : Exit → AFr → AHeap → Prop}  (hp : ∀ c fr G, ¬ Q (.panic c) fr G) (hfin : ∀ fr G, implSteps1_J0 r s H fr G → Q .normal fr G) : ∀ fr G, implSteps1_J20 r s H fr G → AA Tryd.prog ops_implSteps1 Q 7 implSteps1_l20 fr G := by
  rintro fr G ⟨get, rfl, hk0, hk1, hk2, hn, g2, g3, g15⟩
  refine aa_slot (d := 2) (v := .pointer (some ⟨H.next, 0, none⟩)) g2 ?_
  refine aa_slot (d := 3) (v := .pointer (some ⟨H.next + 1, 0, none⟩)) g3 ?_
  refine aa_slot (d := 15) (v := .agg #[.int .i8 s.x, .int .i8 s.y]) g15 ?_
  refine aax3 (i := 0) (j := 1) (l := 5) (by kernel_rfl) ?_ ?_ ?_
  · exact aa_oL (listed' := implSteps1_l15) rfl rfl rfl rfl (by kernel_rfl) (ao_makeMap) (implSteps1_st_15  hp hfin _ _ ⟨_, rfl, G.next, hk0.push (by omega) _, blk_push_old hk1, blk_push_old hk2, Nat.le_succ_of_le hn, hn, Nat.lt_succ_self _, blk_push_new _ _, rfl, rfl, rfl, rfl⟩)
  · exact aa_oL (listed' := implSteps1_l16) rfl rfl rfl rfl (by kernel_rfl) (ao_loada Tryd.isAgg48 Tryd.sizeOf48 rfl (by exact HLp) (by rfl) (by exact RFp)) (implSteps1_st_16  hp hfin _ _ ⟨_, rfl, hk0, hk1, hk2, hn, rfl, rfl, rfl⟩)
  · exact aa_oL (listed' := implSteps1_l17) rfl rfl rfl rfl (by kernel_rfl) (ao_lit1 (v := .agg _) Tryd.underlying37 Tryd.sizeOf48 Tryd.zeroValue48 (by rfl) (by rfl) rfl rfl (by rfl) (by exact RFp)) (implSteps1_st_17  hp hfin _ _ ⟨_, rfl, G.next, hk0.push (by omega) _, blk_push_old hk1, blk_push_old hk2, Nat.le_succ_of_le hn, hn, Nat.lt_succ_self _, blk_push_new _ _, rfl, rfl, rfl⟩)
set_option maxHeartbeats 4000000 in
theorem implSteps1_st_21 {r : Room} {s : Spot} {H : AHeap} {Q : Exit → AFr → AHeap → Prop}  (hp : ∀ c fr G, ¬ Q (.panic c) fr G) (hfin : ∀ fr G, implSteps1_J0 r s H fr G → Q .normal fr G) : ∀ fr G, implSteps1_J21 r s H fr G → AA Tryd.prog ops_implSteps1 Q 8 implSteps1_l21 fr G := by
  rintro fr G ⟨get, rfl, hk0, hk1, hk2, hn, g2, g3⟩
  refine aa_slot (d := 2) (v := .pointer (some ⟨H.next, 0, none⟩)) g2 ?_
  refine aa_slot (d := 3) (v := .pointer (some ⟨H.next + 1, 0, none⟩)) g3 ?_
  refine aax3 (i := 0) (j := 1) (l := 4) (by kernel_rfl) ?_ ?_ ?_
  · exact aa_oL (listed' := implSteps1_l18) rfl rfl rfl rfl (by kernel_rfl) (ao_makeMap) (implSteps1_st_18  hp hfin _ _ ⟨_, rfl, G.next, hk0.push (by omega) _, blk_push_old hk1, blk_push_old hk2, Nat.le_succ_of_le hn, hn, Nat.lt_succ_self _, blk_push_new _ _, rfl, rfl, rfl⟩)
  · exact aa_oL (listed' := implSteps1_l19) rfl rfl rfl rfl (by kernel_rfl) (ao_loada Tryd.isAgg48 Tryd.sizeOf48 rfl (by exact HLp) (by rfl) (by exact RFp)) (implSteps1_st_19  hp hfin _ _ ⟨_, rfl, hk0, hk1, hk2, hn, rfl, rfl, rfl⟩)
  · exact aa_oL (listed' := implSteps1_l20) rfl rfl rfl rfl (by kernel_rfl) (ao_loada Tryd.isAgg48 Tryd.sizeOf48 rfl (by exact HLp) (by rfl) (by exact RFp)) (implSteps1_st_20  hp hfin _ _ ⟨_, rfl, hk0, hk1, hk2, hn, rfl, rfl, rfl⟩)
set_option maxHeartbeats 4000000 in
theorem implSteps1_c {r : Room} {s : Spot} {H : AHeap} {Q : Exit → AFr → AHeap → Prop}  (hp : ∀ c fr G, ¬ Q (.panic c) fr G) (hfin : ∀ fr G, implSteps1_J0 r s H fr G → Q .normal fr G) : ∀ fr G, implSteps1_J21 r s H fr G → AA Tryd.prog ops_implSteps1 Q (ops_implSteps1).size (Array.replicate (ops_implSteps1).size false) fr G := by
  rintro fr G ⟨get, rfl, hk0, hk1, hk2, hn, g2, g3⟩
  refine aa_slot (d := 2) (v := .pointer (some ⟨H.next, 0, none⟩)) g2 ?_
  refine aa_slot (d := 3) (v := .pointer (some ⟨H.next + 1, 0, none⟩)) g3 ?_
  exact implSteps1_st_21  hp hfin _ _ ⟨_, rfl, hk0, hk1, hk2, hn, rfl, rfl⟩
-- (impl.Room).steps
theorem implSteps_c {r : Room} {s : Spot} {H : AHeap} (hw : wfRoom r) (hs : wfSpot s) (ha : isFree r s) : ACd Tryd.prog 73 [.agg (roomC r).toArray, .agg #[.int .i8 s.x, .int .i8 s.y]] H (.map (some H.next)) (H.push (mapB (found r s))) := by
  refine ac_gcm (ac_body Tryd.func73 rfl Tryd.ntmps73 rfl ?_)
  refine aw_seq ?_
  refine aw_region ?_
  refine al_opd rfl rfl rfl (ao_boxa (by rfl)) ?_
  refine al_opd rfl rfl rfl (ao_boxa (by rfl)) ?_
  refine al_opd rfl rfl rfl (ao_as (v := .map _) rfl) ?_
  refine al_nilT ?_
  refine aw_seq ?_
  refine aw_cut (implSteps1_J0 r s H) ?_ ?_
  · exact aa_region mo (implSteps1_c  (fun _ _ _ h => h) (fun fr G h => thenA_n h) _ _ ⟨_, rfl, by exact SMp, by exact HLp, by exact HLp, by exact LEp, rfl, rfl⟩)
  · rintro fr G ⟨get, rfl, b12, b16, hk0, hk1, hk2, hn, hl12, hu12, hc12, hl16, hu16, hc16, he12_16, g2, g5, g6⟩
    refine aw_slot (d := 2) (v := .pointer (some ⟨H.next, 0, none⟩)) g2 ?_
    refine aw_slot (d := 5) (v := .map (some b12)) g5 ?_
    refine aw_slot (d := 6) (v := .slice (some ⟨b16, 0, none⟩) 1 1) g6 ?_
    refine aw_seq ?_
    refine aw_seq ?_
    refine aw_region ?_
    refine al_opd rfl rfl rfl (ao_as (v := .int _ _) rfl) ?_
    refine al_nilT ?_
    refine aw_block ?_
    refine aw_loop (fun (gk : Nat) (fr : AFr) (G : AHeap) => ∃ get : Nat → Value, fr = ⟨57, get⟩ ∧ (∃ (i qb n c : Nat), i ≤ (bfs r s i).length ∧ gk = 100 - i ∧ Same H.next H G ∧ G.blk H.next = some (.cells (roomC r) 1) ∧ G.blk b12 = some (mapB (bfs r s i)) ∧ H.next + 2 ≤ qb ∧ qb < G.next ∧ b12 ≠ qb ∧ G.blk qb = some (.cells (fl spot ((bfs r s i).map Prod.fst)) 2) ∧ n = (bfs r s i).length ∧ n ≤ c ∧ get 2 = .pointer (some ⟨H.next, 0, none⟩) ∧ get 5 = .map (some b12) ∧ get 6 = .slice (some ⟨qb, 0, none⟩) n c ∧ get 7 = .int .i64 i)) (100) ⟨_, rfl, ?_⟩ ?_
    · exact ⟨0, b16, 1, 1, by simp [bfs], rfl, hk0, hk1, hc12, hl16, hu16, he12_16, hc16, rfl, by omega, rfl, rfl, rfl, rfl⟩
    · rintro gk fr G ⟨get, rfl, i, qb, n, c, hi, rfl, hG, hbx, hbm, hqb, hlt, hnm, hkb, hn, hc, g2, g5, g6, g7⟩
      have hgd := bfs_good ha i
      have hle := hgd.len
      have hsl0 : Sl G spot 2 (.slice (some ⟨qb, 0, none⟩) n c) ((bfs r s i).map Prod.fst) := Sl.full spot_len hkb rfl rfl (by rw [List.length_map]; exact hn)
      refine aw_slot (d := 2) (v := .pointer (some ⟨H.next, 0, none⟩)) (by first | assumption | rfl) ?_
      refine aw_slot (d := 5) (v := .map (some b12)) (by first | assumption | rfl) ?_
      refine aw_slot (d := 6) (v := .slice (some ⟨qb, 0, none⟩) n c) (by first | assumption | rfl) ?_
      refine aw_slot (d := 7) (v := .int .i64 i) (by first | assumption | rfl) ?_
      refine aw_seq ?_
      refine aw_seq ?_
      refine aw_region ?_
      refine al_opd rfl rfl rfl (ao_mv (v := .int _ _) rfl) ?_
      refine al_opd rfl rfl rfl (ao_mv (v := .slice _ _ _) rfl) ?_
      first | refine al_opd rfl rfl rfl (ao_lenS Tryd.underlying37 (by rfl)) ?_ | refine al_opd rfl rfl rfl (ao_lenN Tryd.underlying37 (by rfl)) ?_ | refine al_opd rfl rfl rfl (ao_lenV Tryd.underlying37 rfl hsl0) ?_ | refine al_opd rfl rfl rfl (ao_lenV Tryd.underlying37 rfl hsb) ?_ | refine al_opd rfl rfl rfl (ao_lenV Tryd.underlying37 rfl hsl2) ?_
      refine al_opd rfl rfl rfl (ao_lss rfl rfl) ?_
      refine al_nilT ?_
      refine aw_cond rfl (fun h1_ => ?_) (fun h1_ => ?_)
      · try simp only [nrm] at h1_
        obtain ⟨p, hp⟩ := get_lt (show i < (bfs r s i).length by omega)
        have hp2 := hgd.pos p (List.mem_of_getElem? hp)
        have hf0 := fst_at hp
        have hwp : wfSpot p.1 := wf_of_free (hgd.free p (List.mem_of_getElem? hp))
        have hbl : (beside r p.1).length ≤ 4 := beside_len r p.1 4
        have hml0 := AHeap.lt hbm
        refine aw_skipT ?_
        refine aw_seq ?_
        refine aw_block ?_
        refine aw_seq ?_
        refine aw_draw (m := 8) mo (by kernel_rfl) rfl (fun _ _ _ h => h) ?_
        first | refine dw_opd rfl rfl rfl (ao_loada Tryd.isAgg28 Tryd.sizeOf28 rfl (by exact HLp) (by rfl) (by exact RFp)) ?_ | refine dw_opd rfl rfl rfl (ao_loadsV (A := #[.int _ _, .int _ _, .int _ _, .int _ _, .int _ _, .int _ _, .int _ _, .int _ _, .int _ _, .int _ _, .int _ _, .int _ _]) Tryd.isAgg28 Tryd.sizeOf28 hsl0 rfl hf0 rfl (by decide)) ?_ | refine dw_opd rfl rfl rfl (ao_loadsV (A := #[.int _ _, .int _ _, .int _ _, .int _ _, .int _ _, .int _ _, .int _ _, .int _ _, .int _ _, .int _ _, .int _ _, .int _ _]) Tryd.isAgg28 Tryd.sizeOf28 hsl0 rfl hx rfl (by decide)) ?_ | refine dw_opd rfl rfl rfl (ao_loadsV (A := #[.int _ _, .int _ _, .int _ _, .int _ _, .int _ _, .int _ _, .int _ _, .int _ _, .int _ _, .int _ _, .int _ _, .int _ _]) Tryd.isAgg28 Tryd.sizeOf28 hsl0 rfl hfa rfl (by decide)) ?_ | refine dw_opd rfl rfl rfl (ao_loadsV (A := #[.int _ _, .int _ _, .int _ _, .int _ _, .int _ _, .int _ _, .int _ _, .int _ _, .int _ _, .int _ _, .int _ _, .int _ _]) Tryd.isAgg28 Tryd.sizeOf28 hsb rfl hf0 rfl (by decide)) ?_ | refine dw_opd rfl rfl rfl (ao_loadsV (A := #[.int _ _, .int _ _, .int _ _, .int _ _, .int _ _, .int _ _, .int _ _, .int _ _, .int _ _, .int _ _, .int _ _, .int _ _]) Tryd.isAgg28 Tryd.sizeOf28 hsb rfl hx rfl (by decide)) ?_ | refine dw_opd rfl rfl rfl (ao_loadsV (A := #[.int _ _, .int _ _, .int _ _, .int _ _, .int _ _, .int _ _, .int _ _, .int _ _, .int _ _, .int _ _, .int _ _, .int _ _]) Tryd.isAgg28 Tryd.sizeOf28 hsb rfl hfa rfl (by decide)) ?_ | refine dw_opd rfl rfl rfl (ao_loadsV (A := #[.int _ _, .int _ _, .int _ _, .int _ _, .int _ _, .int _ _, .int _ _, .int _ _, .int _ _, .int _ _, .int _ _, .int _ _]) Tryd.isAgg28 Tryd.sizeOf28 hsl2 rfl hf0 rfl (by decide)) ?_ | refine dw_opd rfl rfl rfl (ao_loadsV (A := #[.int _ _, .int _ _, .int _ _, .int _ _, .int _ _, .int _ _, .int _ _, .int _ _, .int _ _, .int _ _, .int _ _, .int _ _]) Tryd.isAgg28 Tryd.sizeOf28 hsl2 rfl hx rfl (by decide)) ?_ | refine dw_opd rfl rfl rfl (ao_loadsV (A := #[.int _ _, .int _ _, .int _ _, .int _ _, .int _ _, .int _ _, .int _ _, .int _ _, .int _ _, .int _ _, .int _ _, .int _ _]) Tryd.isAgg28 Tryd.sizeOf28 hsl2 rfl hfa rfl (by decide)) ?_
        refine dw_opd rfl rfl rfl (ao_mv (v := .slice _ _ _) rfl) ?_
        refine dw_opd rfl rfl rfl (ao_mv (v := .int _ _) rfl) ?_
        first | refine dw_opd rfl rfl rfl (ao_indexAddrS Tryd.underlying37 Tryd.sizeOf48 rfl rfl (by exact IXp) (by exact IXp)) ?_ | refine dw_opd rfl rfl rfl (ao_indexV Tryd.underlying37 Tryd.sizeOf48 rfl rfl hsl0 (by exact IXp) (by exact IXp)) ?_ | refine dw_opd rfl rfl rfl (ao_indexV Tryd.underlying37 Tryd.sizeOf48 rfl rfl hsb (by exact IXp) (by exact IXp)) ?_ | refine dw_opd rfl rfl rfl (ao_indexV Tryd.underlying37 Tryd.sizeOf48 rfl rfl hsl2 (by exact IXp) (by exact IXp)) ?_
        first | refine dw_opd rfl rfl rfl (ao_loada Tryd.isAgg48 Tryd.sizeOf48 rfl (by exact HLp) (by rfl) (by exact RFp)) ?_ | refine dw_opd rfl rfl rfl (ao_loadsV (A := #[.int _ _, .int _ _]) Tryd.isAgg48 Tryd.sizeOf48 hsl0 rfl hf0 rfl (by decide)) ?_ | refine dw_opd rfl rfl rfl (ao_loadsV (A := #[.int _ _, .int _ _]) Tryd.isAgg48 Tryd.sizeOf48 hsl0 rfl hx rfl (by decide)) ?_ | refine dw_opd rfl rfl rfl (ao_loadsV (A := #[.int _ _, .int _ _]) Tryd.isAgg48 Tryd.sizeOf48 hsl0 rfl hfa rfl (by decide)) ?_ | refine dw_opd rfl rfl rfl (ao_loadsV (A := #[.int _ _, .int _ _]) Tryd.isAgg48 Tryd.sizeOf48 hsb rfl hf0 rfl (by decide)) ?_ | refine dw_opd rfl rfl rfl (ao_loadsV (A := #[.int _ _, .int _ _]) Tryd.isAgg48 Tryd.sizeOf48 hsb rfl hx rfl (by decide)) ?_ | refine dw_opd rfl rfl rfl (ao_loadsV (A := #[.int _ _, .int _ _]) Tryd.isAgg48 Tryd.sizeOf48 hsb rfl hfa rfl (by decide)) ?_ | refine dw_opd rfl rfl rfl (ao_loadsV (A := #[.int _ _, .int _ _]) Tryd.isAgg48 Tryd.sizeOf48 hsl2 rfl hf0 rfl (by decide)) ?_ | refine dw_opd rfl rfl rfl (ao_loadsV (A := #[.int _ _, .int _ _]) Tryd.isAgg48 Tryd.sizeOf48 hsl2 rfl hx rfl (by decide)) ?_ | refine dw_opd rfl rfl rfl (ao_loadsV (A := #[.int _ _, .int _ _]) Tryd.isAgg48 Tryd.sizeOf48 hsl2 rfl hfa rfl (by decide)) ?_
        refine dw_opn rfl rfl rfl (ao_calld (implBeside_c (r := r) (s := p.1) hw hwp) Tryd.call60 rfl rfl) ?_
        first | refine dw_opd rfl rfl rfl (ao_lenS Tryd.underlying37 (by rfl)) ?_ | refine dw_opd rfl rfl rfl (ao_lenN Tryd.underlying37 (by rfl)) ?_ | refine dw_opd rfl rfl rfl (ao_lenV Tryd.underlying37 rfl hsl0) ?_ | refine dw_opd rfl rfl rfl (ao_lenV Tryd.underlying37 rfl hsb) ?_ | refine dw_opd rfl rfl rfl (ao_lenV Tryd.underlying37 rfl hsl2) ?_
        refine dw_opd rfl rfl rfl (ao_mv (v := .int _ _) rfl) ?_
        refine dw_end ?_
        refine al_nilT ?_
        refine aw_block ?_
        refine aw_loop (fun (gk : Nat) (fr : AFr) (G : AHeap) => ∃ get : Nat → Value, fr = ⟨57, get⟩ ∧ (∃ (k bb qb n c : Nat), k ≤ (beside r p.1).length ∧ gk = (beside r p.1).length - k ∧ Same H.next H G ∧ G.blk H.next = some (.cells (roomC r) 1) ∧ G.blk b12 = some (mapB (half r s i p k)) ∧ H.next + 2 ≤ bb ∧ bb < G.next ∧ G.blk bb = some (.cells (fl spot (beside r p.1)) 2) ∧ H.next + 2 ≤ qb ∧ qb < G.next ∧ qb ≠ bb ∧ b12 ≠ qb ∧ b12 < G.next ∧ b12 ≠ bb ∧ G.blk qb = some (.cells (fl spot ((half r s i p k).map Prod.fst)) 2) ∧ n = (half r s i p k).length ∧ n ≤ c ∧ get 2 = .pointer (some ⟨H.next, 0, none⟩) ∧ get 5 = .map (some b12) ∧ get 6 = .slice (some ⟨qb, 0, none⟩) n c ∧ get 7 = .int .i64 i ∧ get 28 = .slice (some ⟨bb, 0, none⟩) (beside r p.1).length ((beside r p.1).length + 1) ∧ get 29 = .int .i64 (beside r p.1).length ∧ get 30 = .int .i64 k)) ((beside r p.1).length) ⟨_, rfl, ?_⟩ ?_
        · refine ⟨0, G.next, qb, n, c, Nat.zero_le _, rfl, by exact SMp, by exact HLp, by exact HLp, ?_, ?_, by exact HLp, ?_, ?_, ?_, ?_, ?_, ?_, by exact HLp, hn, hc, rfl, rfl, rfl, rfl, rfl, rfl, rfl⟩ <;> exact LNp
        · rintro gk fr G ⟨get, rfl, k, bb, qb, n, c, hk, rfl, hG, hbx, hbm, hbb, hltb, hkbb, hqb, hlt, hne, hnm, hml, hnb, hkb, hn, hc, g2, g5, g6, g7, g28, g29, g30⟩
          have hsb : Sl G spot 2 (.slice (some ⟨bb, 0, none⟩) (beside r p.1).length ((beside r p.1).length + 1)) (beside r p.1) := Sl.full spot_len hkbb rfl rfl rfl
          have hhg := half_good (k := k) ha hp
          have hhl := hhg.len
          refine aw_slot (d := 2) (v := .pointer (some ⟨H.next, 0, none⟩)) (by first | assumption | rfl) ?_
          refine aw_slot (d := 5) (v := .map (some b12)) (by first | assumption | rfl) ?_
          refine aw_slot (d := 6) (v := .slice (some ⟨qb, 0, none⟩) n c) (by first | assumption | rfl) ?_
          refine aw_slot (d := 7) (v := .int .i64 i) (by first | assumption | rfl) ?_
          refine aw_slot (d := 28) (v := .slice (some ⟨bb, 0, none⟩) (beside r p.1).length ((beside r p.1).length + 1)) (by first | assumption | rfl) ?_
          refine aw_slot (d := 29) (v := .int .i64 (beside r p.1).length) (by first | assumption | rfl) ?_
          refine aw_slot (d := 30) (v := .int .i64 k) (by first | assumption | rfl) ?_
          refine aw_seq ?_
          refine aw_region ?_
          refine al_opd rfl rfl rfl (ao_lss rfl rfl) ?_
          refine al_nilT ?_
          refine aw_seq ?_
          refine aw_cond rfl (fun h2_ => ?_) (fun h2_ => ?_)
          · try simp only [nrm] at h2_
            obtain ⟨x, hx⟩ := get_lt (show k < (beside r p.1).length by omega)
            obtain ⟨lv, ok, hlk⟩ := look_ex (half r s i p k) x
            have hsl2 : Sl (G.push (.cells [.int .i8 x.x, .int .i8 x.y] 1)) spot 2 (.slice (some ⟨qb, 0, none⟩) n c) ((half r s i p k).map Prod.fst) := (Sl.full spot_len hkb rfl rfl (by rw [List.length_map]; exact hn)).mono (by exact SMp)
            have hfa := fst_at (half_at (k := k) hp)
            have hil : i < ((half r s i p k).map Prod.fst).length := (List.getElem?_eq_some_iff.mp hfa).1
            refine aw_skipT ?_
            refine aw_seq ?_
            refine aw_block ?_
            refine aw_seq ?_
            refine aw_region ?_
            first | refine al_opd rfl rfl rfl (ao_indexAddrS Tryd.underlying37 Tryd.sizeOf48 rfl rfl (by exact IXp) (by exact IXp)) ?_ | refine al_opd rfl rfl rfl (ao_indexV Tryd.underlying37 Tryd.sizeOf48 rfl rfl hsl0 (by exact IXp) (by exact IXp)) ?_ | refine al_opd rfl rfl rfl (ao_indexV Tryd.underlying37 Tryd.sizeOf48 rfl rfl hsb (by exact IXp) (by exact IXp)) ?_ | refine al_opd rfl rfl rfl (ao_indexV Tryd.underlying37 Tryd.sizeOf48 rfl rfl hsl2 (by exact IXp) (by exact IXp)) ?_
            first | refine al_opd rfl rfl rfl (ao_loada Tryd.isAgg48 Tryd.sizeOf48 rfl (by exact HLp) (by rfl) (by exact RFp)) ?_ | refine al_opd rfl rfl rfl (ao_loadsV (A := #[.int _ _, .int _ _]) Tryd.isAgg48 Tryd.sizeOf48 hsl0 rfl hf0 rfl (by decide)) ?_ | refine al_opd rfl rfl rfl (ao_loadsV (A := #[.int _ _, .int _ _]) Tryd.isAgg48 Tryd.sizeOf48 hsl0 rfl hx rfl (by decide)) ?_ | refine al_opd rfl rfl rfl (ao_loadsV (A := #[.int _ _, .int _ _]) Tryd.isAgg48 Tryd.sizeOf48 hsl0 rfl hfa rfl (by decide)) ?_ | refine al_opd rfl rfl rfl (ao_loadsV (A := #[.int _ _, .int _ _]) Tryd.isAgg48 Tryd.sizeOf48 hsb rfl hf0 rfl (by decide)) ?_ | refine al_opd rfl rfl rfl (ao_loadsV (A := #[.int _ _, .int _ _]) Tryd.isAgg48 Tryd.sizeOf48 hsb rfl hx rfl (by decide)) ?_ | refine al_opd rfl rfl rfl (ao_loadsV (A := #[.int _ _, .int _ _]) Tryd.isAgg48 Tryd.sizeOf48 hsb rfl hfa rfl (by decide)) ?_ | refine al_opd rfl rfl rfl (ao_loadsV (A := #[.int _ _, .int _ _]) Tryd.isAgg48 Tryd.sizeOf48 hsl2 rfl hf0 rfl (by decide)) ?_ | refine al_opd rfl rfl rfl (ao_loadsV (A := #[.int _ _, .int _ _]) Tryd.isAgg48 Tryd.sizeOf48 hsl2 rfl hx rfl (by decide)) ?_ | refine al_opd rfl rfl rfl (ao_loadsV (A := #[.int _ _, .int _ _]) Tryd.isAgg48 Tryd.sizeOf48 hsl2 rfl hfa rfl (by decide)) ?_
            refine al_opd rfl rfl rfl (ao_alloca (zv48) (by rfl)) ?_
            first | refine al_opd rfl rfl rfl ((ao_storeL Tryd.sizeOf48 (by rfl) (by rfl) (by exact HLp) (by exact RFp) (by exact RFp) (by exact RFp)).to (SetR.eq (by exact SRp))) ?_ | refine al_opd rfl rfl rfl ((ao_storeP (ds := [.int _ _, .int _ _]) Tryd.sizeOf48 (by rfl) (by rfl) (by exact HLp) (by exact RFp) (by exact RFp) (by exact LTp)).to (SetR.eq (by exact SRp))) ?_
            refine al_nilT ?_
            refine aw_seq ?_
            refine aw_region ?_
            refine al_opd rfl rfl rfl (ao_mv (v := .map _) rfl) ?_
            first | refine al_opd rfl rfl rfl (ao_loada Tryd.isAgg48 Tryd.sizeOf48 rfl (by exact HLp) (by rfl) (by exact RFp)) ?_ | refine al_opd rfl rfl rfl (ao_loadsV (A := #[.int _ _, .int _ _]) Tryd.isAgg48 Tryd.sizeOf48 hsl0 rfl hf0 rfl (by decide)) ?_ | refine al_opd rfl rfl rfl (ao_loadsV (A := #[.int _ _, .int _ _]) Tryd.isAgg48 Tryd.sizeOf48 hsl0 rfl hx rfl (by decide)) ?_ | refine al_opd rfl rfl rfl (ao_loadsV (A := #[.int _ _, .int _ _]) Tryd.isAgg48 Tryd.sizeOf48 hsl0 rfl hfa rfl (by decide)) ?_ | refine al_opd rfl rfl rfl (ao_loadsV (A := #[.int _ _, .int _ _]) Tryd.isAgg48 Tryd.sizeOf48 hsb rfl hf0 rfl (by decide)) ?_ | refine al_opd rfl rfl rfl (ao_loadsV (A := #[.int _ _, .int _ _]) Tryd.isAgg48 Tryd.sizeOf48 hsb rfl hx rfl (by decide)) ?_ | refine al_opd rfl rfl rfl (ao_loadsV (A := #[.int _ _, .int _ _]) Tryd.isAgg48 Tryd.sizeOf48 hsb rfl hfa rfl (by decide)) ?_ | refine al_opd rfl rfl rfl (ao_loadsV (A := #[.int _ _, .int _ _]) Tryd.isAgg48 Tryd.sizeOf48 hsl2 rfl hf0 rfl (by decide)) ?_ | refine al_opd rfl rfl rfl (ao_loadsV (A := #[.int _ _, .int _ _]) Tryd.isAgg48 Tryd.sizeOf48 hsl2 rfl hx rfl (by decide)) ?_ | refine al_opd rfl rfl rfl (ao_loadsV (A := #[.int _ _, .int _ _]) Tryd.isAgg48 Tryd.sizeOf48 hsl2 rfl hfa rfl (by decide)) ?_
            refine al_opd rfl rfl rfl (ao_look2 (m := (half r s i p k)) (k := x) (ke := spV) (ve := ivV) Tryd.underlying93 keySpot_c (fun _ => rfl) Tryd.zeroValue2 (by rfl) (by rfl) (by rfl) (by exact HLp) hlk) ?_
            refine al_opd rfl rfl rfl (ao_mv (v := .tuple _) rfl) ?_
            refine al_opd rfl rfl rfl (ao_extract (v := .int _ _) rfl rfl) ?_
            refine al_opd rfl rfl rfl (ao_extract (v := .bool _) rfl rfl) ?_
            refine al_opd rfl rfl rfl (ao_as (v := .int _ _) rfl) ?_
            refine al_opd rfl rfl rfl (ao_as (v := .bool _) rfl) ?_
            refine al_nilT ?_
            refine aw_seq ?_
            refine aw_region ?_
            refine al_opd rfl rfl rfl (ao_mv (v := .bool _) rfl) ?_
            refine al_opd rfl rfl rfl (ao_not rfl) ?_
            refine al_nilT ?_
            refine aw_cond rfl (fun h3_ => ?_) (fun h3_ => ?_)
            · try simp only [nrm] at h3_
              have hno := look_no hlk (by simpa using h3_)
              refine aw_seq ?_
              refine aw_draw (m := 9) mo (by kernel_rfl) rfl (fun _ _ _ h => h) ?_
              refine dw_opd rfl rfl rfl (ao_mv (v := .map _) rfl) ?_
              first | refine dw_opd rfl rfl rfl (ao_loada Tryd.isAgg48 Tryd.sizeOf48 rfl (by exact HLp) (by rfl) (by exact RFp)) ?_ | refine dw_opd rfl rfl rfl (ao_loadsV (A := #[.int _ _, .int _ _]) Tryd.isAgg48 Tryd.sizeOf48 hsl0 rfl hf0 rfl (by decide)) ?_ | refine dw_opd rfl rfl rfl (ao_loadsV (A := #[.int _ _, .int _ _]) Tryd.isAgg48 Tryd.sizeOf48 hsl0 rfl hx rfl (by decide)) ?_ | refine dw_opd rfl rfl rfl (ao_loadsV (A := #[.int _ _, .int _ _]) Tryd.isAgg48 Tryd.sizeOf48 hsl0 rfl hfa rfl (by decide)) ?_ | refine dw_opd rfl rfl rfl (ao_loadsV (A := #[.int _ _, .int _ _]) Tryd.isAgg48 Tryd.sizeOf48 hsb rfl hf0 rfl (by decide)) ?_ | refine dw_opd rfl rfl rfl (ao_loadsV (A := #[.int _ _, .int _ _]) Tryd.isAgg48 Tryd.sizeOf48 hsb rfl hx rfl (by decide)) ?_ | refine dw_opd rfl rfl rfl (ao_loadsV (A := #[.int _ _, .int _ _]) Tryd.isAgg48 Tryd.sizeOf48 hsb rfl hfa rfl (by decide)) ?_ | refine dw_opd rfl rfl rfl (ao_loadsV (A := #[.int _ _, .int _ _]) Tryd.isAgg48 Tryd.sizeOf48 hsl2 rfl hf0 rfl (by decide)) ?_ | refine dw_opd rfl rfl rfl (ao_loadsV (A := #[.int _ _, .int _ _]) Tryd.isAgg48 Tryd.sizeOf48 hsl2 rfl hx rfl (by decide)) ?_ | refine dw_opd rfl rfl rfl (ao_loadsV (A := #[.int _ _, .int _ _]) Tryd.isAgg48 Tryd.sizeOf48 hsl2 rfl hfa rfl (by decide)) ?_
              refine dw_opd rfl rfl rfl (ao_mv (v := .map _) rfl) ?_
              refine dw_opd rfl rfl rfl (ao_mv (v := .slice _ _ _) rfl) ?_
              refine dw_opd rfl rfl rfl (ao_mv (v := .int _ _) rfl) ?_
              first | refine dw_opd rfl rfl rfl (ao_indexAddrS Tryd.underlying37 Tryd.sizeOf48 rfl rfl (by exact IXp) (by exact IXp)) ?_ | refine dw_opd rfl rfl rfl (ao_indexV Tryd.underlying37 Tryd.sizeOf48 rfl rfl hsl0 (by exact IXp) (by exact IXp)) ?_ | refine dw_opd rfl rfl rfl (ao_indexV Tryd.underlying37 Tryd.sizeOf48 rfl rfl hsb (by exact IXp) (by exact IXp)) ?_ | refine dw_opd rfl rfl rfl (ao_indexV Tryd.underlying37 Tryd.sizeOf48 rfl rfl hsl2 (by exact IXp) (by exact IXp)) ?_
              first | refine dw_opd rfl rfl rfl (ao_loada Tryd.isAgg48 Tryd.sizeOf48 rfl (by exact HLp) (by rfl) (by exact RFp)) ?_ | refine dw_opd rfl rfl rfl (ao_loadsV (A := #[.int _ _, .int _ _]) Tryd.isAgg48 Tryd.sizeOf48 hsl0 rfl hf0 rfl (by decide)) ?_ | refine dw_opd rfl rfl rfl (ao_loadsV (A := #[.int _ _, .int _ _]) Tryd.isAgg48 Tryd.sizeOf48 hsl0 rfl hx rfl (by decide)) ?_ | refine dw_opd rfl rfl rfl (ao_loadsV (A := #[.int _ _, .int _ _]) Tryd.isAgg48 Tryd.sizeOf48 hsl0 rfl hfa rfl (by decide)) ?_ | refine dw_opd rfl rfl rfl (ao_loadsV (A := #[.int _ _, .int _ _]) Tryd.isAgg48 Tryd.sizeOf48 hsb rfl hf0 rfl (by decide)) ?_ | refine dw_opd rfl rfl rfl (ao_loadsV (A := #[.int _ _, .int _ _]) Tryd.isAgg48 Tryd.sizeOf48 hsb rfl hx rfl (by decide)) ?_ | refine dw_opd rfl rfl rfl (ao_loadsV (A := #[.int _ _, .int _ _]) Tryd.isAgg48 Tryd.sizeOf48 hsb rfl hfa rfl (by decide)) ?_ | refine dw_opd rfl rfl rfl (ao_loadsV (A := #[.int _ _, .int _ _]) Tryd.isAgg48 Tryd.sizeOf48 hsl2 rfl hf0 rfl (by decide)) ?_ | refine dw_opd rfl rfl rfl (ao_loadsV (A := #[.int _ _, .int _ _]) Tryd.isAgg48 Tryd.sizeOf48 hsl2 rfl hx rfl (by decide)) ?_ | refine dw_opd rfl rfl rfl (ao_loadsV (A := #[.int _ _, .int _ _]) Tryd.isAgg48 Tryd.sizeOf48 hsl2 rfl hfa rfl (by decide)) ?_
              refine dw_opd rfl rfl rfl (ao_look1 (m := (half r s i p k)) (k := p.1) (ok := true) (u := .int .i64 p.2) (ke := spV) (ve := ivV) Tryd.underlying93 keySpot_c (fun _ => rfl) Tryd.zeroValue2 (by rfl) (by rfl) (by rfl) (by exact HLp) (.inr ⟨p.2, mget_dist hhg.dist (half_at hp), rfl, rfl⟩)) ?_
              first | refine dw_opd rfl rfl rfl ((ao_add rfl rfl).val (nw_i64 BDp BDp)) ?_ | refine dw_opd rfl rfl rfl (ao_add rfl rfl) ?_
              refine dw_end ?_
              refine al_opd rfl rfl rfl (ao_mapPut (m := (half r s i p k)) (k := x) (v := p.2 + 1) (ke := spV) (ve := ivV) Tryd.underlying93 keySpot_c (fun _ => rfl) (by rfl) (by rfl) (by rfl) (by exact HLp) hno) ?_
              refine al_nilT ?_
              refine aw_region ?_
              refine al_opd rfl rfl rfl (ao_mv (v := .slice _ _ _) rfl) ?_
              first | refine al_opd rfl rfl rfl (ao_loada Tryd.isAgg48 Tryd.sizeOf48 rfl (by exact HLp) (by rfl) (by exact RFp)) ?_ | refine al_opd rfl rfl rfl (ao_loadsV (A := #[.int _ _, .int _ _]) Tryd.isAgg48 Tryd.sizeOf48 hsl0 rfl hf0 rfl (by decide)) ?_ | refine al_opd rfl rfl rfl (ao_loadsV (A := #[.int _ _, .int _ _]) Tryd.isAgg48 Tryd.sizeOf48 hsl0 rfl hx rfl (by decide)) ?_ | refine al_opd rfl rfl rfl (ao_loadsV (A := #[.int _ _, .int _ _]) Tryd.isAgg48 Tryd.sizeOf48 hsl0 rfl hfa rfl (by decide)) ?_ | refine al_opd rfl rfl rfl (ao_loadsV (A := #[.int _ _, .int _ _]) Tryd.isAgg48 Tryd.sizeOf48 hsb rfl hf0 rfl (by decide)) ?_ | refine al_opd rfl rfl rfl (ao_loadsV (A := #[.int _ _, .int _ _]) Tryd.isAgg48 Tryd.sizeOf48 hsb rfl hx rfl (by decide)) ?_ | refine al_opd rfl rfl rfl (ao_loadsV (A := #[.int _ _, .int _ _]) Tryd.isAgg48 Tryd.sizeOf48 hsb rfl hfa rfl (by decide)) ?_ | refine al_opd rfl rfl rfl (ao_loadsV (A := #[.int _ _, .int _ _]) Tryd.isAgg48 Tryd.sizeOf48 hsl2 rfl hf0 rfl (by decide)) ?_ | refine al_opd rfl rfl rfl (ao_loadsV (A := #[.int _ _, .int _ _]) Tryd.isAgg48 Tryd.sizeOf48 hsl2 rfl hx rfl (by decide)) ?_ | refine al_opd rfl rfl rfl (ao_loadsV (A := #[.int _ _, .int _ _]) Tryd.isAgg48 Tryd.sizeOf48 hsl2 rfl hfa rfl (by decide)) ?_
              refine al_opd rfl rfl rfl (ao_lit1 (v := .agg _) Tryd.underlying37 Tryd.sizeOf48 Tryd.zeroValue48 (by rfl) (by rfl) rfl rfl (by rfl) (by exact RFp)) ?_
              refine al_opd rfl rfl rfl (ao_appC Tryd.underlying37 ⟨_, Tryd.underlying37⟩ elem48 (by rfl) (by rfl) (by exact HLp) (by (rw [fl_len spot_len, List.length_map, ← hn]; omega)) (by exact SCp) (by first | rfl | simp [isOne]) (by exact BDp) (by exact BDp)) ?_
              refine al_opd rfl rfl rfl (ao_as (v := .slice _ _ _) rfl) ?_
              refine al_nilB ?_
              refine thenA_n ?_
              refine aw_region ?_
              first | refine al_opd rfl rfl rfl ((ao_add rfl rfl).val (nw_i64 BDp BDp)) ?_ | refine al_opd rfl rfl rfl (ao_add rfl rfl) ?_
              refine al_opd rfl rfl rfl (ao_mv (v := .int _ _) rfl) ?_
              refine al_nilT ?_
              refine ⟨_, ?_, _, rfl, k + 1, bb, _, n + 1, _, by omega, rfl, by exact SMp, by exact HLp, by rw [half_new hx hno]; exact (by exact HLp), hbb, ?_, by exact HLp, ?_, ?_, ?_, ?_, ?_, hnb, by rw [half_new hx hno, List.map_append, List.map_cons, List.map_nil, fl_snoc]; exact (by exact HLp), by rw [half_new hx hno, List.length_append, ← hn]; rfl, Nat.le_succ _, rfl, rfl, rfl, rfl, rfl, rfl, by rfl⟩
              · omega
              · exact LNp
              · exact LNp
              · exact LNp
              · exact LNp
              · exact LNp
              · exact LNp
            · try simp only [nrm] at h3_
              have hmet := look_yes hlk (by simpa using h3_)
              refine aw_skipB ?_
              refine thenA_n ?_
              refine aw_region ?_
              first | refine al_opd rfl rfl rfl ((ao_add rfl rfl).val (nw_i64 BDp BDp)) ?_ | refine al_opd rfl rfl rfl (ao_add rfl rfl) ?_
              refine al_opd rfl rfl rfl (ao_mv (v := .int _ _) rfl) ?_
              refine al_nilT ?_
              refine ⟨_, ?_, _, rfl, k + 1, bb, qb, n, c, by omega, rfl, by exact SMp, by exact HLp, by rw [half_met hx hmet]; exact (by exact HLp), hbb, ?_, by exact HLp, hqb, ?_, hne, hnm, ?_, hnb, by rw [half_met hx hmet]; exact (by exact HLp), by rw [half_met hx hmet]; exact hn, hc, rfl, rfl, rfl, rfl, rfl, rfl, by rfl⟩
              · omega
              · exact LNp
              · exact LNp
              · exact LNp
          · try simp only [nrm] at h2_
            have hke : (beside r p.1).length ≤ k := by omega
            have h9 := (List.getElem?_eq_some_iff.mp (half_at (k := k) hp)).1
            rw [half_end hp hke] at hbm hkb hn h9
            refine aw_exit ?_
            refine thenA_x ?_
            refine thenA_x ?_
            refine blockA_hit ?_
            refine blockA_n ?_
            refine thenA_n ?_
            refine aw_region ?_
            refine al_opd rfl rfl rfl (ao_mv (v := .int _ _) rfl) ?_
            first | refine al_opd rfl rfl rfl ((ao_add rfl rfl).val (nw_i64 BDp BDp)) ?_ | refine al_opd rfl rfl rfl (ao_add rfl rfl) ?_
            refine al_opd rfl rfl rfl (ao_as (v := .int _ _) rfl) ?_
            refine al_nilT ?_
            exact ⟨_, by omega, _, rfl, i + 1, qb, n, c, by omega, rfl, by exact SMp, by exact HLp, by exact HLp, hqb, hlt, hnm, hkb, hn, hc, rfl, rfl, rfl, by rfl⟩
      · try simp only [nrm] at h1_
        refine aw_exit ?_
        refine thenA_x ?_
        refine thenA_x ?_
        refine blockA_hit ?_
        refine thenA_n ?_
        refine aw_seq ?_
        refine aw_region ?_
        refine al_opd rfl rfl rfl (ao_mv (v := .map _) rfl) ?_
        refine al_opd rfl rfl rfl (ao_as (v := .map _) rfl) ?_
        refine al_nilT ?_
        refine aw_ret ?_
        refine ends1 rfl (rv_tmp (v := .map _) rfl) ?_
        have hfd := bfs_found ha (i := i) (by omega) (by omega)
        rw [hfd] at hbm
        exact ⟨hG, b12, by omega, hbm, rfl⟩

end Go.Proofs.YtmmmjdbknepjgaaDoor
