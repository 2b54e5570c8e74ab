/- Contracts of the program's functions over abstract heaps. -/
import Derived.Test.YtkjmcolnoehjbaaWay
import Derived.Test.YtkjmcolnoehjbaaRy
import Derived.Test.YtkjmcolnoehjbaaSt
import Derived.Test.YtkjmcolnoehjbaaSbb
import Derived.Test.YtkjmcolnoehjbaaWy
import Derived.Test.YtkjmcolnoehjbaaWy2
namespace Go.Proofs.Ytkjmcolnoehjbaa
open Go Go.AW Go.Proofs
set_option linter.unusedVariables false
set_option linter.unusedSimpArgs false
set_option maxRecDepth 100000
set_option maxHeartbeats 2000000

def ops_implWay1_r4 : Array Oper := #[(Go.Oper.mk (some 23) (Go.Op.load 31 (Go.Operand.tmp 3)) 31 "l01_rooms.go:290" #[] none), (Go.Oper.mk (some 24) (Go.Op.load 33 (Go.Operand.tmp 5)) 33 "l01_rooms.go:290" #[] none), (Go.Oper.mk (some 25) (Go.Op.call (Go.Call.mk (Go.Callee.value (Go.Operand.func 39)) #[(Go.Operand.tmp 23), (Go.Operand.tmp 24)] #[31, 33])) 64 "l01_rooms.go:290" #[(Go.Edge.mk 0 Go.Ground.data), (Go.Edge.mk 1 Go.Ground.data)] none), (Go.Oper.mk (some 26) (Go.Op.load 33 (Go.Operand.tmp 4)) 33 "l01_rooms.go:290" #[(Go.Edge.mk 6 (Go.Ground.gcOnly Go.Departure.lateStores))] none), (Go.Oper.mk (some 27) (Go.Op.buildSlice 40 1 #[(0, (Go.Operand.tmp 26))]) 40 "l01_rooms.go:290" #[(Go.Edge.mk 3 Go.Ground.data), (Go.Edge.mk 6 (Go.Ground.gcOnly Go.Departure.lateStores))] none), (Go.Oper.mk (some 10) (Go.Op.alloc 64) 0 "l01_rooms.go:290" #[] none), (Go.Oper.mk none (Go.Op.store 64 (Go.Operand.tmp 10) (Go.Operand.tmp 25)) 0 "l01_rooms.go:290" #[(Go.Edge.mk 5 Go.Ground.data), (Go.Edge.mk 2 Go.Ground.data), (Go.Edge.mk 2 Go.Ground.chain), (Go.Edge.mk 0 Go.Ground.phase), (Go.Edge.mk 1 Go.Ground.phase), (Go.Edge.mk 2 Go.Ground.phase), (Go.Edge.mk 3 (Go.Ground.textOnly Go.Departure.lateStores)), (Go.Edge.mk 4 (Go.Ground.textOnly Go.Departure.lateStores)), (Go.Edge.mk 5 Go.Ground.phase)] none), (Go.Oper.mk (some 11) (Go.Op.assign (Go.Operand.tmp 27)) 40 "l01_rooms.go:290" #[(Go.Edge.mk 4 Go.Ground.data), (Go.Edge.mk 6 Go.Ground.chain), (Go.Edge.mk 0 Go.Ground.phase), (Go.Edge.mk 1 Go.Ground.phase), (Go.Edge.mk 2 Go.Ground.phase), (Go.Edge.mk 3 Go.Ground.phase), (Go.Edge.mk 4 Go.Ground.phase), (Go.Edge.mk 5 Go.Ground.phase), (Go.Edge.mk 6 Go.Ground.phase)] none)]
set_option maxHeartbeats 8000000 in
theorem implWay1_r4_c {r : Room} {a b : Spot} {H : AHeap} {Q : Exit → AFr → AHeap → Prop} (hw : wfRoom r) (hwb : wfSpot b) (hfb : isFree r b) (hfin : ∀ fr G, (∃ get : Nat → Value, fr = ⟨43, get⟩ ∧ ∃ (b25 b27 b10 : Nat), Same H.next H G ∧ G.blk H.next = some (.cells (roomC r) 1) ∧ G.blk (H.next + 1) = some (.cells (spot a) 1) ∧ G.blk (H.next + 2) = some (.cells (spot b) 1) ∧ H.next + 3 ≤ G.next ∧ H.next + 3 ≤ b25 ∧ b25 < G.next ∧ G.blk b25 = some (mapB (found r b)) ∧ H.next + 3 ≤ b27 ∧ b27 < G.next ∧ G.blk b27 = some (.cells (spot a) 2) ∧ H.next + 3 ≤ b10 ∧ b10 < G.next ∧ G.blk b10 = some (.cells [.map (some b25)] 1) ∧ b25 ≠ b27 ∧ b25 ≠ b10 ∧ b27 ≠ b10 ∧ get 3 = .pointer (some ⟨H.next, 0, none⟩) ∧ get 4 = .pointer (some ⟨H.next + 1, 0, none⟩) ∧ get 5 = .pointer (some ⟨H.next + 2, 0, none⟩) ∧ get 23 = .agg (roomC r).toArray ∧ get 24 = .agg #[.int .i8 b.x, .int .i8 b.y] ∧ get 25 = .map (some b25) ∧ get 26 = .agg #[.int .i8 a.x, .int .i8 a.y] ∧ get 27 = .slice (some ⟨b27, 0, none⟩) 1 1 ∧ get 10 = .pointer (some ⟨b10, 0, none⟩) ∧ get 11 = .slice (some ⟨b27, 0, none⟩) 1 1) → Q .normal fr G) : ∀ fr G, (∃ get : Nat → Value, fr = ⟨43, get⟩ ∧ Same H.next H G ∧ G.blk H.next = some (.cells (roomC r) 1) ∧ G.blk (H.next + 1) = some (.cells (spot a) 1) ∧ G.blk (H.next + 2) = some (.cells (spot b) 1) ∧ H.next + 3 ≤ G.next ∧ get 3 = .pointer (some ⟨H.next, 0, none⟩) ∧ get 4 = .pointer (some ⟨H.next + 1, 0, none⟩) ∧ get 5 = .pointer (some ⟨H.next + 2, 0, none⟩)) → AA Try.prog ops_implWay1_r4 Q (ops_implWay1_r4).size (Array.replicate (ops_implWay1_r4).size false) fr G := by
  have st_01234567 : ∀ fr G, (∃ get : Nat → Value, fr = ⟨43, get⟩ ∧ ∃ (b25 b27 b10 : Nat), Same H.next H G ∧ G.blk H.next = some (.cells (roomC r) 1) ∧ G.blk (H.next + 1) = some (.cells (spot a) 1) ∧ G.blk (H.next + 2) = some (.cells (spot b) 1) ∧ H.next + 3 ≤ G.next ∧ H.next + 3 ≤ b25 ∧ b25 < G.next ∧ G.blk b25 = some (mapB (found r b)) ∧ H.next + 3 ≤ b27 ∧ b27 < G.next ∧ G.blk b27 = some (.cells (spot a) 2) ∧ H.next + 3 ≤ b10 ∧ b10 < G.next ∧ G.blk b10 = some (.cells [.map (some b25)] 1) ∧ b25 ≠ b27 ∧ b25 ≠ b10 ∧ b27 ≠ b10 ∧ get 3 = .pointer (some ⟨H.next, 0, none⟩) ∧ get 4 = .pointer (some ⟨H.next + 1, 0, none⟩) ∧ get 5 = .pointer (some ⟨H.next + 2, 0, none⟩) ∧ get 23 = .agg (roomC r).toArray ∧ get 24 = .agg #[.int .i8 b.x, .int .i8 b.y] ∧ get 25 = .map (some b25) ∧ get 26 = .agg #[.int .i8 a.x, .int .i8 a.y] ∧ get 27 = .slice (some ⟨b27, 0, none⟩) 1 1 ∧ get 10 = .pointer (some ⟨b10, 0, none⟩) ∧ get 11 = .slice (some ⟨b27, 0, none⟩) 1 1) → AA Try.prog ops_implWay1_r4 Q 0 #[true, true, true, true, true, true, true, true] fr G := by
    exact fun fr G h => aa_done (by kernel_rfl) (hfin fr G h)
  have st_0123456 : ∀ fr G, (∃ get : Nat → Value, fr = ⟨43, get⟩ ∧ ∃ (b25 b27 b10 : Nat), Same H.next H G ∧ G.blk H.next = some (.cells (roomC r) 1) ∧ G.blk (H.next + 1) = some (.cells (spot a) 1) ∧ G.blk (H.next + 2) = some (.cells (spot b) 1) ∧ H.next + 3 ≤ G.next ∧ H.next + 3 ≤ b25 ∧ b25 < G.next ∧ G.blk b25 = some (mapB (found r b)) ∧ H.next + 3 ≤ b27 ∧ b27 < G.next ∧ G.blk b27 = some (.cells (spot a) 2) ∧ H.next + 3 ≤ b10 ∧ b10 < G.next ∧ G.blk b10 = some (.cells [.map (some b25)] 1) ∧ b25 ≠ b27 ∧ b25 ≠ b10 ∧ b27 ≠ b10 ∧ get 3 = .pointer (some ⟨H.next, 0, none⟩) ∧ get 4 = .pointer (some ⟨H.next + 1, 0, none⟩) ∧ get 5 = .pointer (some ⟨H.next + 2, 0, none⟩) ∧ get 23 = .agg (roomC r).toArray ∧ get 24 = .agg #[.int .i8 b.x, .int .i8 b.y] ∧ get 25 = .map (some b25) ∧ get 26 = .agg #[.int .i8 a.x, .int .i8 a.y] ∧ get 27 = .slice (some ⟨b27, 0, none⟩) 1 1 ∧ get 10 = .pointer (some ⟨b10, 0, none⟩)) → AA Try.prog ops_implWay1_r4 Q 1 #[true, true, true, true, true, true, true, false] fr G := by
    rintro fr G ⟨get, rfl, b25, b27, b10, hk0, hk1, hk2, hk3, hn, hl25, hu25, hc25, hl27, hu27, hc27, hl10, hu10, hc10, he25_27, he25_10, he27_10, g3, g4, g5, g23, g24, g25, g26, g27, g10⟩
    refine aa_slot (d := 3) (v := .pointer (some ⟨H.next, 0, none⟩)) g3 ?_
    refine aa_slot (d := 4) (v := .pointer (some ⟨H.next + 1, 0, none⟩)) g4 ?_
    refine aa_slot (d := 5) (v := .pointer (some ⟨H.next + 2, 0, none⟩)) g5 ?_
    refine aa_slot (d := 23) (v := .agg (roomC r).toArray) g23 ?_
    refine aa_slot (d := 24) (v := .agg #[.int .i8 b.x, .int .i8 b.y]) g24 ?_
    refine aa_slot (d := 25) (v := .map (some b25)) g25 ?_
    refine aa_slot (d := 26) (v := .agg #[.int .i8 a.x, .int .i8 a.y]) g26 ?_
    refine aa_slot (d := 27) (v := .slice (some ⟨b27, 0, none⟩) 1 1) g27 ?_
    refine aa_slot (d := 10) (v := .pointer (some ⟨b10, 0, none⟩)) g10 ?_
    refine aax1 (i := 7) (by kernel_rfl) ?_
    · exact aa_oL (listed' := #[true, true, true, true, true, true, true, true]) rfl rfl rfl rfl (by kernel_rfl) (ao_as (v := .slice _ _ _) rfl) (st_01234567 _ _ ⟨_, rfl, b25, b27, b10, hk0, hk1, hk2, hk3, hn, hl25, hu25, hc25, hl27, hu27, hc27, hl10, hu10, hc10, he25_27, he25_10, he27_10, rfl, rfl, rfl, rfl, rfl, rfl, rfl, rfl, rfl, rfl⟩)
  have st_012345 : ∀ fr G, (∃ get : Nat → Value, fr = ⟨43, get⟩ ∧ ∃ (b25 b27 b10 : Nat), Same H.next H G ∧ G.blk H.next = some (.cells (roomC r) 1) ∧ G.blk (H.next + 1) = some (.cells (spot a) 1) ∧ G.blk (H.next + 2) = some (.cells (spot b) 1) ∧ H.next + 3 ≤ G.next ∧ H.next + 3 ≤ b25 ∧ b25 < G.next ∧ G.blk b25 = some (mapB (found r b)) ∧ H.next + 3 ≤ b27 ∧ b27 < G.next ∧ G.blk b27 = some (.cells (spot a) 2) ∧ H.next + 3 ≤ b10 ∧ b10 < G.next ∧ G.blk b10 = some (.cells [.map none] 1) ∧ b25 ≠ b27 ∧ b25 ≠ b10 ∧ b27 ≠ b10 ∧ get 3 = .pointer (some ⟨H.next, 0, none⟩) ∧ get 4 = .pointer (some ⟨H.next + 1, 0, none⟩) ∧ get 5 = .pointer (some ⟨H.next + 2, 0, none⟩) ∧ get 23 = .agg (roomC r).toArray ∧ get 24 = .agg #[.int .i8 b.x, .int .i8 b.y] ∧ get 25 = .map (some b25) ∧ get 26 = .agg #[.int .i8 a.x, .int .i8 a.y] ∧ get 27 = .slice (some ⟨b27, 0, none⟩) 1 1 ∧ get 10 = .pointer (some ⟨b10, 0, none⟩)) → AA Try.prog ops_implWay1_r4 Q 2 #[true, true, true, true, true, true, false, false] fr G := by
    rintro fr G ⟨get, rfl, b25, b27, b10, hk0, hk1, hk2, hk3, hn, hl25, hu25, hc25, hl27, hu27, hc27, hl10, hu10, hc10, he25_27, he25_10, he27_10, g3, g4, g5, g23, g24, g25, g26, g27, g10⟩
    refine aa_slot (d := 3) (v := .pointer (some ⟨H.next, 0, none⟩)) g3 ?_
    refine aa_slot (d := 4) (v := .pointer (some ⟨H.next + 1, 0, none⟩)) g4 ?_
    refine aa_slot (d := 5) (v := .pointer (some ⟨H.next + 2, 0, none⟩)) g5 ?_
    refine aa_slot (d := 23) (v := .agg (roomC r).toArray) g23 ?_
    refine aa_slot (d := 24) (v := .agg #[.int .i8 b.x, .int .i8 b.y]) g24 ?_
    refine aa_slot (d := 25) (v := .map (some b25)) g25 ?_
    refine aa_slot (d := 26) (v := .agg #[.int .i8 a.x, .int .i8 a.y]) g26 ?_
    refine aa_slot (d := 27) (v := .slice (some ⟨b27, 0, none⟩) 1 1) g27 ?_
    refine aa_slot (d := 10) (v := .pointer (some ⟨b10, 0, none⟩)) g10 ?_
    refine aax1 (i := 6) (by kernel_rfl) ?_
    · exact aa_oL (listed' := #[true, true, true, true, true, true, true, false]) rfl rfl rfl rfl (by kernel_rfl) ((ao_store1 (v := .map _) Try.sizeOf64 (by rfl) (by rfl) (by exact HLp) (by rfl) (by exact LTp)).to (SetR.eq (by exact SRp))) (st_0123456 _ _ ⟨_, rfl, b25, b27, b10, hk0.set (by omega) _, (blk_set_ne (by omega)).trans hk1, (blk_set_ne (by omega)).trans hk2, (blk_set_ne (by omega)).trans hk3, hn, hl25, hu25, (blk_set_ne he25_10).trans hc25, hl27, hu27, (blk_set_ne he27_10).trans hc27, hl10, hu10, blk_set_same hc10, he25_27, he25_10, he27_10, rfl, rfl, rfl, rfl, rfl, rfl, rfl, rfl, rfl⟩)
  have st_012356 : ∀ fr G, (∃ get : Nat → Value, fr = ⟨43, get⟩ ∧ ∃ (b25 b10 : Nat), Same H.next H G ∧ G.blk H.next = some (.cells (roomC r) 1) ∧ G.blk (H.next + 1) = some (.cells (spot a) 1) ∧ G.blk (H.next + 2) = some (.cells (spot b) 1) ∧ H.next + 3 ≤ G.next ∧ H.next + 3 ≤ b25 ∧ b25 < G.next ∧ G.blk b25 = some (mapB (found r b)) ∧ H.next + 3 ≤ b10 ∧ b10 < G.next ∧ G.blk b10 = some (.cells [.map (some b25)] 1) ∧ b25 ≠ b10 ∧ get 3 = .pointer (some ⟨H.next, 0, none⟩) ∧ get 4 = .pointer (some ⟨H.next + 1, 0, none⟩) ∧ get 5 = .pointer (some ⟨H.next + 2, 0, none⟩) ∧ get 23 = .agg (roomC r).toArray ∧ get 24 = .agg #[.int .i8 b.x, .int .i8 b.y] ∧ get 25 = .map (some b25) ∧ get 26 = .agg #[.int .i8 a.x, .int .i8 a.y] ∧ get 10 = .pointer (some ⟨b10, 0, none⟩)) → AA Try.prog ops_implWay1_r4 Q 2 #[true, true, true, true, false, true, true, false] fr G := by
    rintro fr G ⟨get, rfl, b25, b10, hk0, hk1, hk2, hk3, hn, hl25, hu25, hc25, hl10, hu10, hc10, he25_10, g3, g4, g5, g23, g24, g25, g26, g10⟩
    refine aa_slot (d := 3) (v := .pointer (some ⟨H.next, 0, none⟩)) g3 ?_
    refine aa_slot (d := 4) (v := .pointer (some ⟨H.next + 1, 0, none⟩)) g4 ?_
    refine aa_slot (d := 5) (v := .pointer (some ⟨H.next + 2, 0, none⟩)) g5 ?_
    refine aa_slot (d := 23) (v := .agg (roomC r).toArray) g23 ?_
    refine aa_slot (d := 24) (v := .agg #[.int .i8 b.x, .int .i8 b.y]) g24 ?_
    refine aa_slot (d := 25) (v := .map (some b25)) g25 ?_
    refine aa_slot (d := 26) (v := .agg #[.int .i8 a.x, .int .i8 a.y]) g26 ?_
    refine aa_slot (d := 10) (v := .pointer (some ⟨b10, 0, none⟩)) g10 ?_
    refine aax1 (i := 4) (by kernel_rfl) ?_
    · exact aa_oL (listed' := #[true, true, true, true, true, true, true, false]) rfl rfl rfl rfl (by kernel_rfl) (ao_lit1 (v := .agg _) Try.underlying40 Try.sizeOf33 Try.zeroValue33 (by rfl) (by rfl) rfl rfl (by rfl) (by exact RFp)) (st_0123456 _ _ ⟨_, rfl, b25, G.next, b10, hk0.push (by omega) _, blk_push_old hk1, blk_push_old hk2, blk_push_old hk3, Nat.le_succ_of_le hn, hl25, Nat.lt_succ_of_lt hu25, blk_push_old hc25, hn, Nat.lt_succ_self _, blk_push_new _ _, hl10, Nat.lt_succ_of_lt hu10, blk_push_old hc10, Nat.ne_of_lt hu25, he25_10, (Nat.ne_of_gt hu10), rfl, rfl, rfl, rfl, rfl, rfl, rfl, rfl, rfl⟩)
  have st_01234 : ∀ fr G, (∃ get : Nat → Value, fr = ⟨43, get⟩ ∧ ∃ (b25 b27 : Nat), Same H.next H G ∧ G.blk H.next = some (.cells (roomC r) 1) ∧ G.blk (H.next + 1) = some (.cells (spot a) 1) ∧ G.blk (H.next + 2) = some (.cells (spot b) 1) ∧ H.next + 3 ≤ G.next ∧ H.next + 3 ≤ b25 ∧ b25 < G.next ∧ G.blk b25 = some (mapB (found r b)) ∧ H.next + 3 ≤ b27 ∧ b27 < G.next ∧ G.blk b27 = some (.cells (spot a) 2) ∧ b25 ≠ b27 ∧ get 3 = .pointer (some ⟨H.next, 0, none⟩) ∧ get 4 = .pointer (some ⟨H.next + 1, 0, none⟩) ∧ get 5 = .pointer (some ⟨H.next + 2, 0, none⟩) ∧ get 23 = .agg (roomC r).toArray ∧ get 24 = .agg #[.int .i8 b.x, .int .i8 b.y] ∧ get 25 = .map (some b25) ∧ get 26 = .agg #[.int .i8 a.x, .int .i8 a.y] ∧ get 27 = .slice (some ⟨b27, 0, none⟩) 1 1) → AA Try.prog ops_implWay1_r4 Q 3 #[true, true, true, true, true, false, false, false] fr G := by
    rintro fr G ⟨get, rfl, b25, b27, hk0, hk1, hk2, hk3, hn, hl25, hu25, hc25, hl27, hu27, hc27, he25_27, g3, g4, g5, g23, g24, g25, g26, g27⟩
    refine aa_slot (d := 3) (v := .pointer (some ⟨H.next, 0, none⟩)) g3 ?_
    refine aa_slot (d := 4) (v := .pointer (some ⟨H.next + 1, 0, none⟩)) g4 ?_
    refine aa_slot (d := 5) (v := .pointer (some ⟨H.next + 2, 0, none⟩)) g5 ?_
    refine aa_slot (d := 23) (v := .agg (roomC r).toArray) g23 ?_
    refine aa_slot (d := 24) (v := .agg #[.int .i8 b.x, .int .i8 b.y]) g24 ?_
    refine aa_slot (d := 25) (v := .map (some b25)) g25 ?_
    refine aa_slot (d := 26) (v := .agg #[.int .i8 a.x, .int .i8 a.y]) g26 ?_
    refine aa_slot (d := 27) (v := .slice (some ⟨b27, 0, none⟩) 1 1) g27 ?_
    refine aax1 (i := 5) (by kernel_rfl) ?_
    · exact aa_oL (listed' := #[true, true, true, true, true, true, false, false]) rfl rfl rfl rfl (by kernel_rfl) (ao_alloc1 Try.zeroValue64 rfl rfl) (st_012345 _ _ ⟨_, rfl, b25, b27, G.next, hk0.push (by omega) _, blk_push_old hk1, blk_push_old hk2, blk_push_old hk3, Nat.le_succ_of_le hn, hl25, Nat.lt_succ_of_lt hu25, blk_push_old hc25, hl27, Nat.lt_succ_of_lt hu27, blk_push_old hc27, hn, Nat.lt_succ_self _, blk_push_new _ _, he25_27, Nat.ne_of_lt hu25, Nat.ne_of_lt hu27, rfl, rfl, rfl, rfl, rfl, rfl, rfl, rfl, rfl⟩)
  have st_01235 : ∀ fr G, (∃ get : Nat → Value, fr = ⟨43, get⟩ ∧ ∃ (b25 b10 : Nat), Same H.next H G ∧ G.blk H.next = some (.cells (roomC r) 1) ∧ G.blk (H.next + 1) = some (.cells (spot a) 1) ∧ G.blk (H.next + 2) = some (.cells (spot b) 1) ∧ H.next + 3 ≤ G.next ∧ H.next + 3 ≤ b25 ∧ b25 < G.next ∧ G.blk b25 = some (mapB (found r b)) ∧ H.next + 3 ≤ b10 ∧ b10 < G.next ∧ G.blk b10 = some (.cells [.map none] 1) ∧ b25 ≠ b10 ∧ get 3 = .pointer (some ⟨H.next, 0, none⟩) ∧ get 4 = .pointer (some ⟨H.next + 1, 0, none⟩) ∧ get 5 = .pointer (some ⟨H.next + 2, 0, none⟩) ∧ get 23 = .agg (roomC r).toArray ∧ get 24 = .agg #[.int .i8 b.x, .int .i8 b.y] ∧ get 25 = .map (some b25) ∧ get 26 = .agg #[.int .i8 a.x, .int .i8 a.y] ∧ get 10 = .pointer (some ⟨b10, 0, none⟩)) → AA Try.prog ops_implWay1_r4 Q 3 #[true, true, true, true, false, true, false, false] fr G := by
    rintro fr G ⟨get, rfl, b25, b10, hk0, hk1, hk2, hk3, hn, hl25, hu25, hc25, hl10, hu10, hc10, he25_10, g3, g4, g5, g23, g24, g25, g26, g10⟩
    refine aa_slot (d := 3) (v := .pointer (some ⟨H.next, 0, none⟩)) g3 ?_
    refine aa_slot (d := 4) (v := .pointer (some ⟨H.next + 1, 0, none⟩)) g4 ?_
    refine aa_slot (d := 5) (v := .pointer (some ⟨H.next + 2, 0, none⟩)) g5 ?_
    refine aa_slot (d := 23) (v := .agg (roomC r).toArray) g23 ?_
    refine aa_slot (d := 24) (v := .agg #[.int .i8 b.x, .int .i8 b.y]) g24 ?_
    refine aa_slot (d := 25) (v := .map (some b25)) g25 ?_
    refine aa_slot (d := 26) (v := .agg #[.int .i8 a.x, .int .i8 a.y]) g26 ?_
    refine aa_slot (d := 10) (v := .pointer (some ⟨b10, 0, none⟩)) g10 ?_
    refine aax2 (i := 4) (j := 6) (by kernel_rfl) ?_ ?_
    · exact aa_oL (listed' := #[true, true, true, true, true, true, false, false]) rfl rfl rfl rfl (by kernel_rfl) (ao_lit1 (v := .agg _) Try.underlying40 Try.sizeOf33 Try.zeroValue33 (by rfl) (by rfl) rfl rfl (by rfl) (by exact RFp)) (st_012345 _ _ ⟨_, rfl, b25, G.next, b10, hk0.push (by omega) _, blk_push_old hk1, blk_push_old hk2, blk_push_old hk3, Nat.le_succ_of_le hn, hl25, Nat.lt_succ_of_lt hu25, blk_push_old hc25, hn, Nat.lt_succ_self _, blk_push_new _ _, hl10, Nat.lt_succ_of_lt hu10, blk_push_old hc10, Nat.ne_of_lt hu25, he25_10, (Nat.ne_of_gt hu10), rfl, rfl, rfl, rfl, rfl, rfl, rfl, rfl, rfl⟩)
    · exact aa_oL (listed' := #[true, true, true, true, false, true, true, false]) rfl rfl rfl rfl (by kernel_rfl) ((ao_store1 (v := .map _) Try.sizeOf64 (by rfl) (by rfl) (by exact HLp) (by rfl) (by exact LTp)).to (SetR.eq (by exact SRp))) (st_012356 _ _ ⟨_, rfl, b25, b10, hk0.set (by omega) _, (blk_set_ne (by omega)).trans hk1, (blk_set_ne (by omega)).trans hk2, (blk_set_ne (by omega)).trans hk3, hn, hl25, hu25, (blk_set_ne he25_10).trans hc25, hl10, hu10, blk_set_same hc10, he25_10, rfl, rfl, rfl, rfl, rfl, rfl, rfl, rfl⟩)
  have st_01256 : ∀ fr G, (∃ get : Nat → Value, fr = ⟨43, get⟩ ∧ ∃ (b25 b10 : Nat), Same H.next H G ∧ G.blk H.next = some (.cells (roomC r) 1) ∧ G.blk (H.next + 1) = some (.cells (spot a) 1) ∧ G.blk (H.next + 2) = some (.cells (spot b) 1) ∧ H.next + 3 ≤ G.next ∧ H.next + 3 ≤ b25 ∧ b25 < G.next ∧ G.blk b25 = some (mapB (found r b)) ∧ H.next + 3 ≤ b10 ∧ b10 < G.next ∧ G.blk b10 = some (.cells [.map (some b25)] 1) ∧ b25 ≠ b10 ∧ get 3 = .pointer (some ⟨H.next, 0, none⟩) ∧ get 4 = .pointer (some ⟨H.next + 1, 0, none⟩) ∧ get 5 = .pointer (some ⟨H.next + 2, 0, none⟩) ∧ get 23 = .agg (roomC r).toArray ∧ get 24 = .agg #[.int .i8 b.x, .int .i8 b.y] ∧ get 25 = .map (some b25) ∧ get 10 = .pointer (some ⟨b10, 0, none⟩)) → AA Try.prog ops_implWay1_r4 Q 3 #[true, true, true, false, false, true, true, false] fr G := by
    rintro fr G ⟨get, rfl, b25, b10, hk0, hk1, hk2, hk3, hn, hl25, hu25, hc25, hl10, hu10, hc10, he25_10, g3, g4, g5, g23, g24, g25, g10⟩
    refine aa_slot (d := 3) (v := .pointer (some ⟨H.next, 0, none⟩)) g3 ?_
    refine aa_slot (d := 4) (v := .pointer (some ⟨H.next + 1, 0, none⟩)) g4 ?_
    refine aa_slot (d := 5) (v := .pointer (some ⟨H.next + 2, 0, none⟩)) g5 ?_
    refine aa_slot (d := 23) (v := .agg (roomC r).toArray) g23 ?_
    refine aa_slot (d := 24) (v := .agg #[.int .i8 b.x, .int .i8 b.y]) g24 ?_
    refine aa_slot (d := 25) (v := .map (some b25)) g25 ?_
    refine aa_slot (d := 10) (v := .pointer (some ⟨b10, 0, none⟩)) g10 ?_
    refine aax1 (i := 3) (by kernel_rfl) ?_
    · exact aa_oL (listed' := #[true, true, true, true, false, true, true, false]) rfl rfl rfl rfl (by kernel_rfl) (ao_loada Try.isAgg33 Try.sizeOf33 rfl (by exact HLp) (by rfl) (by exact RFp)) (st_012356 _ _ ⟨_, rfl, b25, b10, hk0, hk1, hk2, hk3, hn, hl25, hu25, hc25, hl10, hu10, hc10, he25_10, rfl, rfl, rfl, rfl, rfl, rfl, rfl, rfl⟩)
  have st_01345 : ∀ fr G, (∃ get : Nat → Value, fr = ⟨43, get⟩ ∧ ∃ (b27 b10 : Nat), Same H.next H G ∧ G.blk H.next = some (.cells (roomC r) 1) ∧ G.blk (H.next + 1) = some (.cells (spot a) 1) ∧ G.blk (H.next + 2) = some (.cells (spot b) 1) ∧ H.next + 3 ≤ G.next ∧ H.next + 3 ≤ b27 ∧ b27 < G.next ∧ G.blk b27 = some (.cells (spot a) 2) ∧ H.next + 3 ≤ b10 ∧ b10 < G.next ∧ G.blk b10 = some (.cells [.map none] 1) ∧ b27 ≠ b10 ∧ get 3 = .pointer (some ⟨H.next, 0, none⟩) ∧ get 4 = .pointer (some ⟨H.next + 1, 0, none⟩) ∧ get 5 = .pointer (some ⟨H.next + 2, 0, none⟩) ∧ get 23 = .agg (roomC r).toArray ∧ get 24 = .agg #[.int .i8 b.x, .int .i8 b.y] ∧ get 26 = .agg #[.int .i8 a.x, .int .i8 a.y] ∧ get 27 = .slice (some ⟨b27, 0, none⟩) 1 1 ∧ get 10 = .pointer (some ⟨b10, 0, none⟩)) → AA Try.prog ops_implWay1_r4 Q 3 #[true, true, false, true, true, true, false, false] fr G := by
    rintro fr G ⟨get, rfl, b27, b10, hk0, hk1, hk2, hk3, hn, hl27, hu27, hc27, hl10, hu10, hc10, he27_10, g3, g4, g5, g23, g24, g26, g27, g10⟩
    refine aa_slot (d := 3) (v := .pointer (some ⟨H.next, 0, none⟩)) g3 ?_
    refine aa_slot (d := 4) (v := .pointer (some ⟨H.next + 1, 0, none⟩)) g4 ?_
    refine aa_slot (d := 5) (v := .pointer (some ⟨H.next + 2, 0, none⟩)) g5 ?_
    refine aa_slot (d := 23) (v := .agg (roomC r).toArray) g23 ?_
    refine aa_slot (d := 24) (v := .agg #[.int .i8 b.x, .int .i8 b.y]) g24 ?_
    refine aa_slot (d := 26) (v := .agg #[.int .i8 a.x, .int .i8 a.y]) g26 ?_
    refine aa_slot (d := 27) (v := .slice (some ⟨b27, 0, none⟩) 1 1) g27 ?_
    refine aa_slot (d := 10) (v := .pointer (some ⟨b10, 0, none⟩)) g10 ?_
    refine aax1 (i := 2) (by kernel_rfl) ?_
    · exact aa_oL (listed' := #[true, true, true, true, true, true, false, false]) rfl rfl rfl rfl (by kernel_rfl) (ao_calld (implSteps_c (r := r) (s := b) hw hwb hfb) Try.call39 rfl rfl) (st_012345 _ _ ⟨_, rfl, G.next, b27, b10, hk0.push (by omega) _, blk_push_old hk1, blk_push_old hk2, blk_push_old hk3, Nat.le_succ_of_le hn, hn, Nat.lt_succ_self _, blk_push_new _ _, hl27, Nat.lt_succ_of_lt hu27, blk_push_old hc27, hl10, Nat.lt_succ_of_lt hu10, blk_push_old hc10, (Nat.ne_of_gt hu27), (Nat.ne_of_gt hu10), he27_10, rfl, rfl, rfl, rfl, rfl, rfl, rfl, rfl, rfl⟩)
  have st_0123 : ∀ fr G, (∃ get : Nat → Value, fr = ⟨43, get⟩ ∧ ∃ (b25 : Nat), Same H.next H G ∧ G.blk H.next = some (.cells (roomC r) 1) ∧ G.blk (H.next + 1) = some (.cells (spot a) 1) ∧ G.blk (H.next + 2) = some (.cells (spot b) 1) ∧ H.next + 3 ≤ G.next ∧ H.next + 3 ≤ b25 ∧ b25 < G.next ∧ G.blk b25 = some (mapB (found r b)) ∧ get 3 = .pointer (some ⟨H.next, 0, none⟩) ∧ get 4 = .pointer (some ⟨H.next + 1, 0, none⟩) ∧ get 5 = .pointer (some ⟨H.next + 2, 0, none⟩) ∧ get 23 = .agg (roomC r).toArray ∧ get 24 = .agg #[.int .i8 b.x, .int .i8 b.y] ∧ get 25 = .map (some b25) ∧ get 26 = .agg #[.int .i8 a.x, .int .i8 a.y]) → AA Try.prog ops_implWay1_r4 Q 4 #[true, true, true, true, false, false, false, false] fr G := by
    rintro fr G ⟨get, rfl, b25, hk0, hk1, hk2, hk3, hn, hl25, hu25, hc25, g3, g4, g5, g23, g24, g25, g26⟩
    refine aa_slot (d := 3) (v := .pointer (some ⟨H.next, 0, none⟩)) g3 ?_
    refine aa_slot (d := 4) (v := .pointer (some ⟨H.next + 1, 0, none⟩)) g4 ?_
    refine aa_slot (d := 5) (v := .pointer (some ⟨H.next + 2, 0, none⟩)) g5 ?_
    refine aa_slot (d := 23) (v := .agg (roomC r).toArray) g23 ?_
    refine aa_slot (d := 24) (v := .agg #[.int .i8 b.x, .int .i8 b.y]) g24 ?_
    refine aa_slot (d := 25) (v := .map (some b25)) g25 ?_
    refine aa_slot (d := 26) (v := .agg #[.int .i8 a.x, .int .i8 a.y]) g26 ?_
    refine aax2 (i := 4) (j := 5) (by kernel_rfl) ?_ ?_
    · exact aa_oL (listed' := #[true, true, true, true, true, false, false, false]) rfl rfl rfl rfl (by kernel_rfl) (ao_lit1 (v := .agg _) Try.underlying40 Try.sizeOf33 Try.zeroValue33 (by rfl) (by rfl) rfl rfl (by rfl) (by exact RFp)) (st_01234 _ _ ⟨_, rfl, b25, G.next, hk0.push (by omega) _, blk_push_old hk1, blk_push_old hk2, blk_push_old hk3, Nat.le_succ_of_le hn, hl25, Nat.lt_succ_of_lt hu25, blk_push_old hc25, hn, Nat.lt_succ_self _, blk_push_new _ _, Nat.ne_of_lt hu25, rfl, rfl, rfl, rfl, rfl, rfl, rfl, rfl⟩)
    · exact aa_oL (listed' := #[true, true, true, true, false, true, false, false]) rfl rfl rfl rfl (by kernel_rfl) (ao_alloc1 Try.zeroValue64 rfl rfl) (st_01235 _ _ ⟨_, rfl, b25, G.next, hk0.push (by omega) _, blk_push_old hk1, blk_push_old hk2, blk_push_old hk3, Nat.le_succ_of_le hn, hl25, Nat.lt_succ_of_lt hu25, blk_push_old hc25, hn, Nat.lt_succ_self _, blk_push_new _ _, Nat.ne_of_lt hu25, rfl, rfl, rfl, rfl, rfl, rfl, rfl, rfl⟩)
  have st_0125 : ∀ fr G, (∃ get : Nat → Value, fr = ⟨43, get⟩ ∧ ∃ (b25 b10 : Nat), Same H.next H G ∧ G.blk H.next = some (.cells (roomC r) 1) ∧ G.blk (H.next + 1) = some (.cells (spot a) 1) ∧ G.blk (H.next + 2) = some (.cells (spot b) 1) ∧ H.next + 3 ≤ G.next ∧ H.next + 3 ≤ b25 ∧ b25 < G.next ∧ G.blk b25 = some (mapB (found r b)) ∧ H.next + 3 ≤ b10 ∧ b10 < G.next ∧ G.blk b10 = some (.cells [.map none] 1) ∧ b25 ≠ b10 ∧ get 3 = .pointer (some ⟨H.next, 0, none⟩) ∧ get 4 = .pointer (some ⟨H.next + 1, 0, none⟩) ∧ get 5 = .pointer (some ⟨H.next + 2, 0, none⟩) ∧ get 23 = .agg (roomC r).toArray ∧ get 24 = .agg #[.int .i8 b.x, .int .i8 b.y] ∧ get 25 = .map (some b25) ∧ get 10 = .pointer (some ⟨b10, 0, none⟩)) → AA Try.prog ops_implWay1_r4 Q 4 #[true, true, true, false, false, true, false, false] fr G := by
    rintro fr G ⟨get, rfl, b25, b10, hk0, hk1, hk2, hk3, hn, hl25, hu25, hc25, hl10, hu10, hc10, he25_10, g3, g4, g5, g23, g24, g25, g10⟩
    refine aa_slot (d := 3) (v := .pointer (some ⟨H.next, 0, none⟩)) g3 ?_
    refine aa_slot (d := 4) (v := .pointer (some ⟨H.next + 1, 0, none⟩)) g4 ?_
    refine aa_slot (d := 5) (v := .pointer (some ⟨H.next + 2, 0, none⟩)) g5 ?_
    refine aa_slot (d := 23) (v := .agg (roomC r).toArray) g23 ?_
    refine aa_slot (d := 24) (v := .agg #[.int .i8 b.x, .int .i8 b.y]) g24 ?_
    refine aa_slot (d := 25) (v := .map (some b25)) g25 ?_
    refine aa_slot (d := 10) (v := .pointer (some ⟨b10, 0, none⟩)) g10 ?_
    refine aax2 (i := 3) (j := 6) (by kernel_rfl) ?_ ?_
    · exact aa_oL (listed' := #[true, true, true, true, false, true, false, false]) rfl rfl rfl rfl (by kernel_rfl) (ao_loada Try.isAgg33 Try.sizeOf33 rfl (by exact HLp) (by rfl) (by exact RFp)) (st_01235 _ _ ⟨_, rfl, b25, b10, hk0, hk1, hk2, hk3, hn, hl25, hu25, hc25, hl10, hu10, hc10, he25_10, rfl, rfl, rfl, rfl, rfl, rfl, rfl, rfl⟩)
    · exact aa_oL (listed' := #[true, true, true, false, false, true, true, false]) rfl rfl rfl rfl (by kernel_rfl) ((ao_store1 (v := .map _) Try.sizeOf64 (by rfl) (by rfl) (by exact HLp) (by rfl) (by exact LTp)).to (SetR.eq (by exact SRp))) (st_01256 _ _ ⟨_, rfl, b25, b10, hk0.set (by omega) _, (blk_set_ne (by omega)).trans hk1, (blk_set_ne (by omega)).trans hk2, (blk_set_ne (by omega)).trans hk3, hn, hl25, hu25, (blk_set_ne he25_10).trans hc25, hl10, hu10, blk_set_same hc10, he25_10, rfl, rfl, rfl, rfl, rfl, rfl, rfl⟩)
  have st_0134 : ∀ fr G, (∃ get : Nat → Value, fr = ⟨43, get⟩ ∧ ∃ (b27 : Nat), Same H.next H G ∧ G.blk H.next = some (.cells (roomC r) 1) ∧ G.blk (H.next + 1) = some (.cells (spot a) 1) ∧ G.blk (H.next + 2) = some (.cells (spot b) 1) ∧ H.next + 3 ≤ G.next ∧ H.next + 3 ≤ b27 ∧ b27 < G.next ∧ G.blk b27 = some (.cells (spot a) 2) ∧ get 3 = .pointer (some ⟨H.next, 0, none⟩) ∧ get 4 = .pointer (some ⟨H.next + 1, 0, none⟩) ∧ get 5 = .pointer (some ⟨H.next + 2, 0, none⟩) ∧ get 23 = .agg (roomC r).toArray ∧ get 24 = .agg #[.int .i8 b.x, .int .i8 b.y] ∧ get 26 = .agg #[.int .i8 a.x, .int .i8 a.y] ∧ get 27 = .slice (some ⟨b27, 0, none⟩) 1 1) → AA Try.prog ops_implWay1_r4 Q 4 #[true, true, false, true, true, false, false, false] fr G := by
    rintro fr G ⟨get, rfl, b27, hk0, hk1, hk2, hk3, hn, hl27, hu27, hc27, g3, g4, g5, g23, g24, g26, g27⟩
    refine aa_slot (d := 3) (v := .pointer (some ⟨H.next, 0, none⟩)) g3 ?_
    refine aa_slot (d := 4) (v := .pointer (some ⟨H.next + 1, 0, none⟩)) g4 ?_
    refine aa_slot (d := 5) (v := .pointer (some ⟨H.next + 2, 0, none⟩)) g5 ?_
    refine aa_slot (d := 23) (v := .agg (roomC r).toArray) g23 ?_
    refine aa_slot (d := 24) (v := .agg #[.int .i8 b.x, .int .i8 b.y]) g24 ?_
    refine aa_slot (d := 26) (v := .agg #[.int .i8 a.x, .int .i8 a.y]) g26 ?_
    refine aa_slot (d := 27) (v := .slice (some ⟨b27, 0, none⟩) 1 1) g27 ?_
    refine aax2 (i := 2) (j := 5) (by kernel_rfl) ?_ ?_
    · exact aa_oL (listed' := #[true, true, true, true, true, false, false, false]) rfl rfl rfl rfl (by kernel_rfl) (ao_calld (implSteps_c (r := r) (s := b) hw hwb hfb) Try.call39 rfl rfl) (st_01234 _ _ ⟨_, rfl, G.next, b27, hk0.push (by omega) _, blk_push_old hk1, blk_push_old hk2, blk_push_old hk3, Nat.le_succ_of_le hn, hn, Nat.lt_succ_self _, blk_push_new _ _, hl27, Nat.lt_succ_of_lt hu27, blk_push_old hc27, (Nat.ne_of_gt hu27), rfl, rfl, rfl, rfl, rfl, rfl, rfl, rfl⟩)
    · exact aa_oL (listed' := #[true, true, false, true, true, true, false, false]) rfl rfl rfl rfl (by kernel_rfl) (ao_alloc1 Try.zeroValue64 rfl rfl) (st_01345 _ _ ⟨_, rfl, b27, G.next, hk0.push (by omega) _, blk_push_old hk1, blk_push_old hk2, blk_push_old hk3, Nat.le_succ_of_le hn, hl27, Nat.lt_succ_of_lt hu27, blk_push_old hc27, hn, Nat.lt_succ_self _, blk_push_new _ _, Nat.ne_of_lt hu27, rfl, rfl, rfl, rfl, rfl, rfl, rfl, rfl⟩)
  have st_0135 : ∀ fr G, (∃ get : Nat → Value, fr = ⟨43, get⟩ ∧ ∃ (b10 : Nat), Same H.next H G ∧ G.blk H.next = some (.cells (roomC r) 1) ∧ G.blk (H.next + 1) = some (.cells (spot a) 1) ∧ G.blk (H.next + 2) = some (.cells (spot b) 1) ∧ H.next + 3 ≤ G.next ∧ H.next + 3 ≤ b10 ∧ b10 < G.next ∧ G.blk b10 = some (.cells [.map none] 1) ∧ get 3 = .pointer (some ⟨H.next, 0, none⟩) ∧ get 4 = .pointer (some ⟨H.next + 1, 0, none⟩) ∧ get 5 = .pointer (some ⟨H.next + 2, 0, none⟩) ∧ get 23 = .agg (roomC r).toArray ∧ get 24 = .agg #[.int .i8 b.x, .int .i8 b.y] ∧ get 26 = .agg #[.int .i8 a.x, .int .i8 a.y] ∧ get 10 = .pointer (some ⟨b10, 0, none⟩)) → AA Try.prog ops_implWay1_r4 Q 4 #[true, true, false, true, false, true, false, false] fr G := by
    rintro fr G ⟨get, rfl, b10, hk0, hk1, hk2, hk3, hn, hl10, hu10, hc10, g3, g4, g5, g23, g24, g26, g10⟩
    refine aa_slot (d := 3) (v := .pointer (some ⟨H.next, 0, none⟩)) g3 ?_
    refine aa_slot (d := 4) (v := .pointer (some ⟨H.next + 1, 0, none⟩)) g4 ?_
    refine aa_slot (d := 5) (v := .pointer (some ⟨H.next + 2, 0, none⟩)) g5 ?_
    refine aa_slot (d := 23) (v := .agg (roomC r).toArray) g23 ?_
    refine aa_slot (d := 24) (v := .agg #[.int .i8 b.x, .int .i8 b.y]) g24 ?_
    refine aa_slot (d := 26) (v := .agg #[.int .i8 a.x, .int .i8 a.y]) g26 ?_
    refine aa_slot (d := 10) (v := .pointer (some ⟨b10, 0, none⟩)) g10 ?_
    refine aax2 (i := 2) (j := 4) (by kernel_rfl) ?_ ?_
    · exact aa_oL (listed' := #[true, true, true, true, false, true, false, false]) rfl rfl rfl rfl (by kernel_rfl) (ao_calld (implSteps_c (r := r) (s := b) hw hwb hfb) Try.call39 rfl rfl) (st_01235 _ _ ⟨_, rfl, G.next, b10, hk0.push (by omega) _, blk_push_old hk1, blk_push_old hk2, blk_push_old hk3, Nat.le_succ_of_le hn, hn, Nat.lt_succ_self _, blk_push_new _ _, hl10, Nat.lt_succ_of_lt hu10, blk_push_old hc10, (Nat.ne_of_gt hu10), rfl, rfl, rfl, rfl, rfl, rfl, rfl, rfl⟩)
    · exact aa_oL (listed' := #[true, true, false, true, true, true, false, false]) rfl rfl rfl rfl (by kernel_rfl) (ao_lit1 (v := .agg _) Try.underlying40 Try.sizeOf33 Try.zeroValue33 (by rfl) (by rfl) rfl rfl (by rfl) (by exact RFp)) (st_01345 _ _ ⟨_, rfl, G.next, b10, hk0.push (by omega) _, blk_push_old hk1, blk_push_old hk2, blk_push_old hk3, Nat.le_succ_of_le hn, hn, Nat.lt_succ_self _, blk_push_new _ _, hl10, Nat.lt_succ_of_lt hu10, blk_push_old hc10, (Nat.ne_of_gt hu10), rfl, rfl, rfl, rfl, rfl, rfl, rfl, rfl⟩)
  have st_0345 : ∀ fr G, (∃ get : Nat → Value, fr = ⟨43, get⟩ ∧ ∃ (b27 b10 : Nat), Same H.next H G ∧ G.blk H.next = some (.cells (roomC r) 1) ∧ G.blk (H.next + 1) = some (.cells (spot a) 1) ∧ G.blk (H.next + 2) = some (.cells (spot b) 1) ∧ H.next + 3 ≤ G.next ∧ H.next + 3 ≤ b27 ∧ b27 < G.next ∧ G.blk b27 = some (.cells (spot a) 2) ∧ H.next + 3 ≤ b10 ∧ b10 < G.next ∧ G.blk b10 = some (.cells [.map none] 1) ∧ b27 ≠ b10 ∧ get 3 = .pointer (some ⟨H.next, 0, none⟩) ∧ get 4 = .pointer (some ⟨H.next + 1, 0, none⟩) ∧ get 5 = .pointer (some ⟨H.next + 2, 0, none⟩) ∧ get 23 = .agg (roomC r).toArray ∧ get 26 = .agg #[.int .i8 a.x, .int .i8 a.y] ∧ get 27 = .slice (some ⟨b27, 0, none⟩) 1 1 ∧ get 10 = .pointer (some ⟨b10, 0, none⟩)) → AA Try.prog ops_implWay1_r4 Q 4 #[true, false, false, true, true, true, false, false] fr G := by
    rintro fr G ⟨get, rfl, b27, b10, hk0, hk1, hk2, hk3, hn, hl27, hu27, hc27, hl10, hu10, hc10, he27_10, g3, g4, g5, g23, g26, g27, g10⟩
    refine aa_slot (d := 3) (v := .pointer (some ⟨H.next, 0, none⟩)) g3 ?_
    refine aa_slot (d := 4) (v := .pointer (some ⟨H.next + 1, 0, none⟩)) g4 ?_
    refine aa_slot (d := 5) (v := .pointer (some ⟨H.next + 2, 0, none⟩)) g5 ?_
    refine aa_slot (d := 23) (v := .agg (roomC r).toArray) g23 ?_
    refine aa_slot (d := 26) (v := .agg #[.int .i8 a.x, .int .i8 a.y]) g26 ?_
    refine aa_slot (d := 27) (v := .slice (some ⟨b27, 0, none⟩) 1 1) g27 ?_
    refine aa_slot (d := 10) (v := .pointer (some ⟨b10, 0, none⟩)) g10 ?_
    refine aax1 (i := 1) (by kernel_rfl) ?_
    · exact aa_oL (listed' := #[true, true, false, true, true, true, false, false]) rfl rfl rfl rfl (by kernel_rfl) (ao_loada Try.isAgg33 Try.sizeOf33 rfl (by exact HLp) (by rfl) (by exact RFp)) (st_01345 _ _ ⟨_, rfl, b27, b10, hk0, hk1, hk2, hk3, hn, hl27, hu27, hc27, hl10, hu10, hc10, he27_10, rfl, rfl, rfl, rfl, rfl, rfl, rfl, rfl⟩)
  have st_1345 : ∀ fr G, (∃ get : Nat → Value, fr = ⟨43, get⟩ ∧ ∃ (b27 b10 : Nat), Same H.next H G ∧ G.blk H.next = some (.cells (roomC r) 1) ∧ G.blk (H.next + 1) = some (.cells (spot a) 1) ∧ G.blk (H.next + 2) = some (.cells (spot b) 1) ∧ H.next + 3 ≤ G.next ∧ H.next + 3 ≤ b27 ∧ b27 < G.next ∧ G.blk b27 = some (.cells (spot a) 2) ∧ H.next + 3 ≤ b10 ∧ b10 < G.next ∧ G.blk b10 = some (.cells [.map none] 1) ∧ b27 ≠ b10 ∧ get 3 = .pointer (some ⟨H.next, 0, none⟩) ∧ get 4 = .pointer (some ⟨H.next + 1, 0, none⟩) ∧ get 5 = .pointer (some ⟨H.next + 2, 0, none⟩) ∧ get 24 = .agg #[.int .i8 b.x, .int .i8 b.y] ∧ get 26 = .agg #[.int .i8 a.x, .int .i8 a.y] ∧ get 27 = .slice (some ⟨b27, 0, none⟩) 1 1 ∧ get 10 = .pointer (some ⟨b10, 0, none⟩)) → AA Try.prog ops_implWay1_r4 Q 4 #[false, true, false, true, true, true, false, false] fr G := by
    rintro fr G ⟨get, rfl, b27, b10, hk0, hk1, hk2, hk3, hn, hl27, hu27, hc27, hl10, hu10, hc10, he27_10, g3, g4, g5, g24, g26, g27, g10⟩
    refine aa_slot (d := 3) (v := .pointer (some ⟨H.next, 0, none⟩)) g3 ?_
    refine aa_slot (d := 4) (v := .pointer (some ⟨H.next + 1, 0, none⟩)) g4 ?_
    refine aa_slot (d := 5) (v := .pointer (some ⟨H.next + 2, 0, none⟩)) g5 ?_
    refine aa_slot (d := 24) (v := .agg #[.int .i8 b.x, .int .i8 b.y]) g24 ?_
    refine aa_slot (d := 26) (v := .agg #[.int .i8 a.x, .int .i8 a.y]) g26 ?_
    refine aa_slot (d := 27) (v := .slice (some ⟨b27, 0, none⟩) 1 1) g27 ?_
    refine aa_slot (d := 10) (v := .pointer (some ⟨b10, 0, none⟩)) g10 ?_
    refine aax1 (i := 0) (by kernel_rfl) ?_
    · exact aa_oL (listed' := #[true, true, false, true, true, true, false, false]) rfl rfl rfl rfl (by kernel_rfl) (ao_loada Try.isAgg31 Try.sizeOf31 rfl (by exact HLp) (by rfl) (by exact RFp)) (st_01345 _ _ ⟨_, rfl, b27, b10, hk0, hk1, hk2, hk3, hn, hl27, hu27, hc27, hl10, hu10, hc10, he27_10, rfl, rfl, rfl, rfl, rfl, rfl, rfl, rfl⟩)
  have st_012 : ∀ fr G, (∃ get : Nat → Value, fr = ⟨43, get⟩ ∧ ∃ (b25 : Nat), Same H.next H G ∧ G.blk H.next = some (.cells (roomC r) 1) ∧ G.blk (H.next + 1) = some (.cells (spot a) 1) ∧ G.blk (H.next + 2) = some (.cells (spot b) 1) ∧ H.next + 3 ≤ G.next ∧ H.next + 3 ≤ b25 ∧ b25 < G.next ∧ G.blk b25 = some (mapB (found r b)) ∧ get 3 = .pointer (some ⟨H.next, 0, none⟩) ∧ get 4 = .pointer (some ⟨H.next + 1, 0, none⟩) ∧ get 5 = .pointer (some ⟨H.next + 2, 0, none⟩) ∧ get 23 = .agg (roomC r).toArray ∧ get 24 = .agg #[.int .i8 b.x, .int .i8 b.y] ∧ get 25 = .map (some b25)) → AA Try.prog ops_implWay1_r4 Q 5 #[true, true, true, false, false, false, false, false] fr G := by
    rintro fr G ⟨get, rfl, b25, hk0, hk1, hk2, hk3, hn, hl25, hu25, hc25, g3, g4, g5, g23, g24, g25⟩
    refine aa_slot (d := 3) (v := .pointer (some ⟨H.next, 0, none⟩)) g3 ?_
    refine aa_slot (d := 4) (v := .pointer (some ⟨H.next + 1, 0, none⟩)) g4 ?_
    refine aa_slot (d := 5) (v := .pointer (some ⟨H.next + 2, 0, none⟩)) g5 ?_
    refine aa_slot (d := 23) (v := .agg (roomC r).toArray) g23 ?_
    refine aa_slot (d := 24) (v := .agg #[.int .i8 b.x, .int .i8 b.y]) g24 ?_
    refine aa_slot (d := 25) (v := .map (some b25)) g25 ?_
    refine aax2 (i := 3) (j := 5) (by kernel_rfl) ?_ ?_
    · exact aa_oL (listed' := #[true, true, true, true, false, false, false, false]) rfl rfl rfl rfl (by kernel_rfl) (ao_loada Try.isAgg33 Try.sizeOf33 rfl (by exact HLp) (by rfl) (by exact RFp)) (st_0123 _ _ ⟨_, rfl, b25, hk0, hk1, hk2, hk3, hn, hl25, hu25, hc25, rfl, rfl, rfl, rfl, rfl, rfl, rfl⟩)
    · exact aa_oL (listed' := #[true, true, true, false, false, true, false, false]) rfl rfl rfl rfl (by kernel_rfl) (ao_alloc1 Try.zeroValue64 rfl rfl) (st_0125 _ _ ⟨_, rfl, b25, G.next, hk0.push (by omega) _, blk_push_old hk1, blk_push_old hk2, blk_push_old hk3, Nat.le_succ_of_le hn, hl25, Nat.lt_succ_of_lt hu25, blk_push_old hc25, hn, Nat.lt_succ_self _, blk_push_new _ _, Nat.ne_of_lt hu25, rfl, rfl, rfl, rfl, rfl, rfl, rfl⟩)
  have st_013 : ∀ fr G, (∃ get : Nat → Value, fr = ⟨43, get⟩ ∧ Same H.next H G ∧ G.blk H.next = some (.cells (roomC r) 1) ∧ G.blk (H.next + 1) = some (.cells (spot a) 1) ∧ G.blk (H.next + 2) = some (.cells (spot b) 1) ∧ H.next + 3 ≤ G.next ∧ get 3 = .pointer (some ⟨H.next, 0, none⟩) ∧ get 4 = .pointer (some ⟨H.next + 1, 0, none⟩) ∧ get 5 = .pointer (some ⟨H.next + 2, 0, none⟩) ∧ get 23 = .agg (roomC r).toArray ∧ get 24 = .agg #[.int .i8 b.x, .int .i8 b.y] ∧ get 26 = .agg #[.int .i8 a.x, .int .i8 a.y]) → AA Try.prog ops_implWay1_r4 Q 5 #[true, true, false, true, false, false, false, false] fr G := by
    rintro fr G ⟨get, rfl, hk0, hk1, hk2, hk3, hn, g3, g4, g5, g23, g24, g26⟩
    refine aa_slot (d := 3) (v := .pointer (some ⟨H.next, 0, none⟩)) g3 ?_
    refine aa_slot (d := 4) (v := .pointer (some ⟨H.next + 1, 0, none⟩)) g4 ?_
    refine aa_slot (d := 5) (v := .pointer (some ⟨H.next + 2, 0, none⟩)) g5 ?_
    refine aa_slot (d := 23) (v := .agg (roomC r).toArray) g23 ?_
    refine aa_slot (d := 24) (v := .agg #[.int .i8 b.x, .int .i8 b.y]) g24 ?_
    refine aa_slot (d := 26) (v := .agg #[.int .i8 a.x, .int .i8 a.y]) g26 ?_
    refine aax3 (i := 2) (j := 4) (l := 5) (by kernel_rfl) ?_ ?_ ?_
    · exact aa_oL (listed' := #[true, true, true, true, false, false, false, false]) rfl rfl rfl rfl (by kernel_rfl) (ao_calld (implSteps_c (r := r) (s := b) hw hwb hfb) Try.call39 rfl rfl) (st_0123 _ _ ⟨_, rfl, G.next, hk0.push (by omega) _, blk_push_old hk1, blk_push_old hk2, blk_push_old hk3, Nat.le_succ_of_le hn, hn, Nat.lt_succ_self _, blk_push_new _ _, rfl, rfl, rfl, rfl, rfl, rfl, rfl⟩)
    · exact aa_oL (listed' := #[true, true, false, true, true, false, false, false]) rfl rfl rfl rfl (by kernel_rfl) (ao_lit1 (v := .agg _) Try.underlying40 Try.sizeOf33 Try.zeroValue33 (by rfl) (by rfl) rfl rfl (by rfl) (by exact RFp)) (st_0134 _ _ ⟨_, rfl, G.next, hk0.push (by omega) _, blk_push_old hk1, blk_push_old hk2, blk_push_old hk3, Nat.le_succ_of_le hn, hn, Nat.lt_succ_self _, blk_push_new _ _, rfl, rfl, rfl, rfl, rfl, rfl, rfl⟩)
    · exact aa_oL (listed' := #[true, true, false, true, false, true, false, false]) rfl rfl rfl rfl (by kernel_rfl) (ao_alloc1 Try.zeroValue64 rfl rfl) (st_0135 _ _ ⟨_, rfl, G.next, hk0.push (by omega) _, blk_push_old hk1, blk_push_old hk2, blk_push_old hk3, Nat.le_succ_of_le hn, hn, Nat.lt_succ_self _, blk_push_new _ _, rfl, rfl, rfl, rfl, rfl, rfl, rfl⟩)
  have st_015 : ∀ fr G, (∃ get : Nat → Value, fr = ⟨43, get⟩ ∧ ∃ (b10 : Nat), Same H.next H G ∧ G.blk H.next = some (.cells (roomC r) 1) ∧ G.blk (H.next + 1) = some (.cells (spot a) 1) ∧ G.blk (H.next + 2) = some (.cells (spot b) 1) ∧ H.next + 3 ≤ G.next ∧ H.next + 3 ≤ b10 ∧ b10 < G.next ∧ G.blk b10 = some (.cells [.map none] 1) ∧ get 3 = .pointer (some ⟨H.next, 0, none⟩) ∧ get 4 = .pointer (some ⟨H.next + 1, 0, none⟩) ∧ get 5 = .pointer (some ⟨H.next + 2, 0, none⟩) ∧ get 23 = .agg (roomC r).toArray ∧ get 24 = .agg #[.int .i8 b.x, .int .i8 b.y] ∧ get 10 = .pointer (some ⟨b10, 0, none⟩)) → AA Try.prog ops_implWay1_r4 Q 5 #[true, true, false, false, false, true, false, false] fr G := by
    rintro fr G ⟨get, rfl, b10, hk0, hk1, hk2, hk3, hn, hl10, hu10, hc10, g3, g4, g5, g23, g24, g10⟩
    refine aa_slot (d := 3) (v := .pointer (some ⟨H.next, 0, none⟩)) g3 ?_
    refine aa_slot (d := 4) (v := .pointer (some ⟨H.next + 1, 0, none⟩)) g4 ?_
    refine aa_slot (d := 5) (v := .pointer (some ⟨H.next + 2, 0, none⟩)) g5 ?_
    refine aa_slot (d := 23) (v := .agg (roomC r).toArray) g23 ?_
    refine aa_slot (d := 24) (v := .agg #[.int .i8 b.x, .int .i8 b.y]) g24 ?_
    refine aa_slot (d := 10) (v := .pointer (some ⟨b10, 0, none⟩)) g10 ?_
    refine aax2 (i := 2) (j := 3) (by kernel_rfl) ?_ ?_
    · exact aa_oL (listed' := #[true, true, true, false, false, true, false, false]) rfl rfl rfl rfl (by kernel_rfl) (ao_calld (implSteps_c (r := r) (s := b) hw hwb hfb) Try.call39 rfl rfl) (st_0125 _ _ ⟨_, rfl, G.next, b10, hk0.push (by omega) _, blk_push_old hk1, blk_push_old hk2, blk_push_old hk3, Nat.le_succ_of_le hn, hn, Nat.lt_succ_self _, blk_push_new _ _, hl10, Nat.lt_succ_of_lt hu10, blk_push_old hc10, (Nat.ne_of_gt hu10), rfl, rfl, rfl, rfl, rfl, rfl, rfl⟩)
    · exact aa_oL (listed' := #[true, true, false, true, false, true, false, false]) rfl rfl rfl rfl (by kernel_rfl) (ao_loada Try.isAgg33 Try.sizeOf33 rfl (by exact HLp) (by rfl) (by exact RFp)) (st_0135 _ _ ⟨_, rfl, b10, hk0, hk1, hk2, hk3, hn, hl10, hu10, hc10, rfl, rfl, rfl, rfl, rfl, rfl, rfl⟩)
  have st_034 : ∀ fr G, (∃ get : Nat → Value, fr = ⟨43, get⟩ ∧ ∃ (b27 : Nat), Same H.next H G ∧ G.blk H.next = some (.cells (roomC r) 1) ∧ G.blk (H.next + 1) = some (.cells (spot a) 1) ∧ G.blk (H.next + 2) = some (.cells (spot b) 1) ∧ H.next + 3 ≤ G.next ∧ H.next + 3 ≤ b27 ∧ b27 < G.next ∧ G.blk b27 = some (.cells (spot a) 2) ∧ get 3 = .pointer (some ⟨H.next, 0, none⟩) ∧ get 4 = .pointer (some ⟨H.next + 1, 0, none⟩) ∧ get 5 = .pointer (some ⟨H.next + 2, 0, none⟩) ∧ get 23 = .agg (roomC r).toArray ∧ get 26 = .agg #[.int .i8 a.x, .int .i8 a.y] ∧ get 27 = .slice (some ⟨b27, 0, none⟩) 1 1) → AA Try.prog ops_implWay1_r4 Q 5 #[true, false, false, true, true, false, false, false] fr G := by
    rintro fr G ⟨get, rfl, b27, hk0, hk1, hk2, hk3, hn, hl27, hu27, hc27, g3, g4, g5, g23, g26, g27⟩
    refine aa_slot (d := 3) (v := .pointer (some ⟨H.next, 0, none⟩)) g3 ?_
    refine aa_slot (d := 4) (v := .pointer (some ⟨H.next + 1, 0, none⟩)) g4 ?_
    refine aa_slot (d := 5) (v := .pointer (some ⟨H.next + 2, 0, none⟩)) g5 ?_
    refine aa_slot (d := 23) (v := .agg (roomC r).toArray) g23 ?_
    refine aa_slot (d := 26) (v := .agg #[.int .i8 a.x, .int .i8 a.y]) g26 ?_
    refine aa_slot (d := 27) (v := .slice (some ⟨b27, 0, none⟩) 1 1) g27 ?_
    refine aax2 (i := 1) (j := 5) (by kernel_rfl) ?_ ?_
    · exact aa_oL (listed' := #[true, true, false, true, true, false, false, false]) rfl rfl rfl rfl (by kernel_rfl) (ao_loada Try.isAgg33 Try.sizeOf33 rfl (by exact HLp) (by rfl) (by exact RFp)) (st_0134 _ _ ⟨_, rfl, b27, hk0, hk1, hk2, hk3, hn, hl27, hu27, hc27, rfl, rfl, rfl, rfl, rfl, rfl, rfl⟩)
    · exact aa_oL (listed' := #[true, false, false, true, true, true, false, false]) rfl rfl rfl rfl (by kernel_rfl) (ao_alloc1 Try.zeroValue64 rfl rfl) (st_0345 _ _ ⟨_, rfl, b27, G.next, hk0.push (by omega) _, blk_push_old hk1, blk_push_old hk2, blk_push_old hk3, Nat.le_succ_of_le hn, hl27, Nat.lt_succ_of_lt hu27, blk_push_old hc27, hn, Nat.lt_succ_self _, blk_push_new _ _, Nat.ne_of_lt hu27, rfl, rfl, rfl, rfl, rfl, rfl, rfl⟩)
  have st_035 : ∀ fr G, (∃ get : Nat → Value, fr = ⟨43, get⟩ ∧ ∃ (b10 : Nat), Same H.next H G ∧ G.blk H.next = some (.cells (roomC r) 1) ∧ G.blk (H.next + 1) = some (.cells (spot a) 1) ∧ G.blk (H.next + 2) = some (.cells (spot b) 1) ∧ H.next + 3 ≤ G.next ∧ H.next + 3 ≤ b10 ∧ b10 < G.next ∧ G.blk b10 = some (.cells [.map none] 1) ∧ get 3 = .pointer (some ⟨H.next, 0, none⟩) ∧ get 4 = .pointer (some ⟨H.next + 1, 0, none⟩) ∧ get 5 = .pointer (some ⟨H.next + 2, 0, none⟩) ∧ get 23 = .agg (roomC r).toArray ∧ get 26 = .agg #[.int .i8 a.x, .int .i8 a.y] ∧ get 10 = .pointer (some ⟨b10, 0, none⟩)) → AA Try.prog ops_implWay1_r4 Q 5 #[true, false, false, true, false, true, false, false] fr G := by
    rintro fr G ⟨get, rfl, b10, hk0, hk1, hk2, hk3, hn, hl10, hu10, hc10, g3, g4, g5, g23, g26, g10⟩
    refine aa_slot (d := 3) (v := .pointer (some ⟨H.next, 0, none⟩)) g3 ?_
    refine aa_slot (d := 4) (v := .pointer (some ⟨H.next + 1, 0, none⟩)) g4 ?_
    refine aa_slot (d := 5) (v := .pointer (some ⟨H.next + 2, 0, none⟩)) g5 ?_
    refine aa_slot (d := 23) (v := .agg (roomC r).toArray) g23 ?_
    refine aa_slot (d := 26) (v := .agg #[.int .i8 a.x, .int .i8 a.y]) g26 ?_
    refine aa_slot (d := 10) (v := .pointer (some ⟨b10, 0, none⟩)) g10 ?_
    refine aax2 (i := 1) (j := 4) (by kernel_rfl) ?_ ?_
    · exact aa_oL (listed' := #[true, true, false, true, false, true, false, false]) rfl rfl rfl rfl (by kernel_rfl) (ao_loada Try.isAgg33 Try.sizeOf33 rfl (by exact HLp) (by rfl) (by exact RFp)) (st_0135 _ _ ⟨_, rfl, b10, hk0, hk1, hk2, hk3, hn, hl10, hu10, hc10, rfl, rfl, rfl, rfl, rfl, rfl, rfl⟩)
    · exact aa_oL (listed' := #[true, false, false, true, true, true, false, false]) rfl rfl rfl rfl (by kernel_rfl) (ao_lit1 (v := .agg _) Try.underlying40 Try.sizeOf33 Try.zeroValue33 (by rfl) (by rfl) rfl rfl (by rfl) (by exact RFp)) (st_0345 _ _ ⟨_, rfl, G.next, b10, hk0.push (by omega) _, blk_push_old hk1, blk_push_old hk2, blk_push_old hk3, Nat.le_succ_of_le hn, hn, Nat.lt_succ_self _, blk_push_new _ _, hl10, Nat.lt_succ_of_lt hu10, blk_push_old hc10, (Nat.ne_of_gt hu10), rfl, rfl, rfl, rfl, rfl, rfl, rfl⟩)
  have st_134 : ∀ fr G, (∃ get : Nat → Value, fr = ⟨43, get⟩ ∧ ∃ (b27 : Nat), Same H.next H G ∧ G.blk H.next = some (.cells (roomC r) 1) ∧ G.blk (H.next + 1) = some (.cells (spot a) 1) ∧ G.blk (H.next + 2) = some (.cells (spot b) 1) ∧ H.next + 3 ≤ G.next ∧ H.next + 3 ≤ b27 ∧ b27 < G.next ∧ G.blk b27 = some (.cells (spot a) 2) ∧ get 3 = .pointer (some ⟨H.next, 0, none⟩) ∧ get 4 = .pointer (some ⟨H.next + 1, 0, none⟩) ∧ get 5 = .pointer (some ⟨H.next + 2, 0, none⟩) ∧ get 24 = .agg #[.int .i8 b.x, .int .i8 b.y] ∧ get 26 = .agg #[.int .i8 a.x, .int .i8 a.y] ∧ get 27 = .slice (some ⟨b27, 0, none⟩) 1 1) → AA Try.prog ops_implWay1_r4 Q 5 #[false, true, false, true, true, false, false, false] fr G := by
    rintro fr G ⟨get, rfl, b27, hk0, hk1, hk2, hk3, hn, hl27, hu27, hc27, g3, g4, g5, g24, g26, g27⟩
    refine aa_slot (d := 3) (v := .pointer (some ⟨H.next, 0, none⟩)) g3 ?_
    refine aa_slot (d := 4) (v := .pointer (some ⟨H.next + 1, 0, none⟩)) g4 ?_
    refine aa_slot (d := 5) (v := .pointer (some ⟨H.next + 2, 0, none⟩)) g5 ?_
    refine aa_slot (d := 24) (v := .agg #[.int .i8 b.x, .int .i8 b.y]) g24 ?_
    refine aa_slot (d := 26) (v := .agg #[.int .i8 a.x, .int .i8 a.y]) g26 ?_
    refine aa_slot (d := 27) (v := .slice (some ⟨b27, 0, none⟩) 1 1) g27 ?_
    refine aax2 (i := 0) (j := 5) (by kernel_rfl) ?_ ?_
    · exact aa_oL (listed' := #[true, true, false, true, true, false, false, false]) rfl rfl rfl rfl (by kernel_rfl) (ao_loada Try.isAgg31 Try.sizeOf31 rfl (by exact HLp) (by rfl) (by exact RFp)) (st_0134 _ _ ⟨_, rfl, b27, hk0, hk1, hk2, hk3, hn, hl27, hu27, hc27, rfl, rfl, rfl, rfl, rfl, rfl, rfl⟩)
    · exact aa_oL (listed' := #[false, true, false, true, true, true, false, false]) rfl rfl rfl rfl (by kernel_rfl) (ao_alloc1 Try.zeroValue64 rfl rfl) (st_1345 _ _ ⟨_, rfl, b27, G.next, hk0.push (by omega) _, blk_push_old hk1, blk_push_old hk2, blk_push_old hk3, Nat.le_succ_of_le hn, hl27, Nat.lt_succ_of_lt hu27, blk_push_old hc27, hn, Nat.lt_succ_self _, blk_push_new _ _, Nat.ne_of_lt hu27, rfl, rfl, rfl, rfl, rfl, rfl, rfl⟩)
  have st_135 : ∀ fr G, (∃ get : Nat → Value, fr = ⟨43, get⟩ ∧ ∃ (b10 : Nat), Same H.next H G ∧ G.blk H.next = some (.cells (roomC r) 1) ∧ G.blk (H.next + 1) = some (.cells (spot a) 1) ∧ G.blk (H.next + 2) = some (.cells (spot b) 1) ∧ H.next + 3 ≤ G.next ∧ H.next + 3 ≤ b10 ∧ b10 < G.next ∧ G.blk b10 = some (.cells [.map none] 1) ∧ get 3 = .pointer (some ⟨H.next, 0, none⟩) ∧ get 4 = .pointer (some ⟨H.next + 1, 0, none⟩) ∧ get 5 = .pointer (some ⟨H.next + 2, 0, none⟩) ∧ get 24 = .agg #[.int .i8 b.x, .int .i8 b.y] ∧ get 26 = .agg #[.int .i8 a.x, .int .i8 a.y] ∧ get 10 = .pointer (some ⟨b10, 0, none⟩)) → AA Try.prog ops_implWay1_r4 Q 5 #[false, true, false, true, false, true, false, false] fr G := by
    rintro fr G ⟨get, rfl, b10, hk0, hk1, hk2, hk3, hn, hl10, hu10, hc10, g3, g4, g5, g24, g26, g10⟩
    refine aa_slot (d := 3) (v := .pointer (some ⟨H.next, 0, none⟩)) g3 ?_
    refine aa_slot (d := 4) (v := .pointer (some ⟨H.next + 1, 0, none⟩)) g4 ?_
    refine aa_slot (d := 5) (v := .pointer (some ⟨H.next + 2, 0, none⟩)) g5 ?_
    refine aa_slot (d := 24) (v := .agg #[.int .i8 b.x, .int .i8 b.y]) g24 ?_
    refine aa_slot (d := 26) (v := .agg #[.int .i8 a.x, .int .i8 a.y]) g26 ?_
    refine aa_slot (d := 10) (v := .pointer (some ⟨b10, 0, none⟩)) g10 ?_
    refine aax2 (i := 0) (j := 4) (by kernel_rfl) ?_ ?_
    · exact aa_oL (listed' := #[true, true, false, true, false, true, false, false]) rfl rfl rfl rfl (by kernel_rfl) (ao_loada Try.isAgg31 Try.sizeOf31 rfl (by exact HLp) (by rfl) (by exact RFp)) (st_0135 _ _ ⟨_, rfl, b10, hk0, hk1, hk2, hk3, hn, hl10, hu10, hc10, rfl, rfl, rfl, rfl, rfl, rfl, rfl⟩)
    · exact aa_oL (listed' := #[false, true, false, true, true, true, false, false]) rfl rfl rfl rfl (by kernel_rfl) (ao_lit1 (v := .agg _) Try.underlying40 Try.sizeOf33 Try.zeroValue33 (by rfl) (by rfl) rfl rfl (by rfl) (by exact RFp)) (st_1345 _ _ ⟨_, rfl, G.next, b10, hk0.push (by omega) _, blk_push_old hk1, blk_push_old hk2, blk_push_old hk3, Nat.le_succ_of_le hn, hn, Nat.lt_succ_self _, blk_push_new _ _, hl10, Nat.lt_succ_of_lt hu10, blk_push_old hc10, (Nat.ne_of_gt hu10), rfl, rfl, rfl, rfl, rfl, rfl, rfl⟩)
  have st_345 : ∀ fr G, (∃ get : Nat → Value, fr = ⟨43, get⟩ ∧ ∃ (b27 b10 : Nat), Same H.next H G ∧ G.blk H.next = some (.cells (roomC r) 1) ∧ G.blk (H.next + 1) = some (.cells (spot a) 1) ∧ G.blk (H.next + 2) = some (.cells (spot b) 1) ∧ H.next + 3 ≤ G.next ∧ H.next + 3 ≤ b27 ∧ b27 < G.next ∧ G.blk b27 = some (.cells (spot a) 2) ∧ H.next + 3 ≤ b10 ∧ b10 < G.next ∧ G.blk b10 = some (.cells [.map none] 1) ∧ b27 ≠ b10 ∧ get 3 = .pointer (some ⟨H.next, 0, none⟩) ∧ get 4 = .pointer (some ⟨H.next + 1, 0, none⟩) ∧ get 5 = .pointer (some ⟨H.next + 2, 0, none⟩) ∧ get 26 = .agg #[.int .i8 a.x, .int .i8 a.y] ∧ get 27 = .slice (some ⟨b27, 0, none⟩) 1 1 ∧ get 10 = .pointer (some ⟨b10, 0, none⟩)) → AA Try.prog ops_implWay1_r4 Q 5 #[false, false, false, true, true, true, false, false] fr G := by
    rintro fr G ⟨get, rfl, b27, b10, hk0, hk1, hk2, hk3, hn, hl27, hu27, hc27, hl10, hu10, hc10, he27_10, g3, g4, g5, g26, g27, g10⟩
    refine aa_slot (d := 3) (v := .pointer (some ⟨H.next, 0, none⟩)) g3 ?_
    refine aa_slot (d := 4) (v := .pointer (some ⟨H.next + 1, 0, none⟩)) g4 ?_
    refine aa_slot (d := 5) (v := .pointer (some ⟨H.next + 2, 0, none⟩)) g5 ?_
    refine aa_slot (d := 26) (v := .agg #[.int .i8 a.x, .int .i8 a.y]) g26 ?_
    refine aa_slot (d := 27) (v := .slice (some ⟨b27, 0, none⟩) 1 1) g27 ?_
    refine aa_slot (d := 10) (v := .pointer (some ⟨b10, 0, none⟩)) g10 ?_
    refine aax2 (i := 0) (j := 1) (by kernel_rfl) ?_ ?_
    · exact aa_oL (listed' := #[true, false, false, true, true, true, false, false]) rfl rfl rfl rfl (by kernel_rfl) (ao_loada Try.isAgg31 Try.sizeOf31 rfl (by exact HLp) (by rfl) (by exact RFp)) (st_0345 _ _ ⟨_, rfl, b27, b10, hk0, hk1, hk2, hk3, hn, hl27, hu27, hc27, hl10, hu10, hc10, he27_10, rfl, rfl, rfl, rfl, rfl, rfl, rfl⟩)
    · exact aa_oL (listed' := #[false, true, false, true, true, true, false, false]) rfl rfl rfl rfl (by kernel_rfl) (ao_loada Try.isAgg33 Try.sizeOf33 rfl (by exact HLp) (by rfl) (by exact RFp)) (st_1345 _ _ ⟨_, rfl, b27, b10, hk0, hk1, hk2, hk3, hn, hl27, hu27, hc27, hl10, hu10, hc10, he27_10, rfl, rfl, rfl, rfl, rfl, rfl, rfl⟩)
  have st_01 : ∀ fr G, (∃ get : Nat → Value, fr = ⟨43, get⟩ ∧ Same H.next H G ∧ G.blk H.next = some (.cells (roomC r) 1) ∧ G.blk (H.next + 1) = some (.cells (spot a) 1) ∧ G.blk (H.next + 2) = some (.cells (spot b) 1) ∧ H.next + 3 ≤ G.next ∧ get 3 = .pointer (some ⟨H.next, 0, none⟩) ∧ get 4 = .pointer (some ⟨H.next + 1, 0, none⟩) ∧ get 5 = .pointer (some ⟨H.next + 2, 0, none⟩) ∧ get 23 = .agg (roomC r).toArray ∧ get 24 = .agg #[.int .i8 b.x, .int .i8 b.y]) → AA Try.prog ops_implWay1_r4 Q 6 #[true, true, false, false, false, false, false, false] fr G := by
    rintro fr G ⟨get, rfl, hk0, hk1, hk2, hk3, hn, g3, g4, g5, g23, g24⟩
    refine aa_slot (d := 3) (v := .pointer (some ⟨H.next, 0, none⟩)) g3 ?_
    refine aa_slot (d := 4) (v := .pointer (some ⟨H.next + 1, 0, none⟩)) g4 ?_
    refine aa_slot (d := 5) (v := .pointer (some ⟨H.next + 2, 0, none⟩)) g5 ?_
    refine aa_slot (d := 23) (v := .agg (roomC r).toArray) g23 ?_
    refine aa_slot (d := 24) (v := .agg #[.int .i8 b.x, .int .i8 b.y]) g24 ?_
    refine aax3 (i := 2) (j := 3) (l := 5) (by kernel_rfl) ?_ ?_ ?_
    · exact aa_oL (listed' := #[true, true, true, false, false, false, false, false]) rfl rfl rfl rfl (by kernel_rfl) (ao_calld (implSteps_c (r := r) (s := b) hw hwb hfb) Try.call39 rfl rfl) (st_012 _ _ ⟨_, rfl, G.next, hk0.push (by omega) _, blk_push_old hk1, blk_push_old hk2, blk_push_old hk3, Nat.le_succ_of_le hn, hn, Nat.lt_succ_self _, blk_push_new _ _, rfl, rfl, rfl, rfl, rfl, rfl⟩)
    · exact aa_oL (listed' := #[true, true, false, true, false, false, false, false]) rfl rfl rfl rfl (by kernel_rfl) (ao_loada Try.isAgg33 Try.sizeOf33 rfl (by exact HLp) (by rfl) (by exact RFp)) (st_013 _ _ ⟨_, rfl, hk0, hk1, hk2, hk3, hn, rfl, rfl, rfl, rfl, rfl, rfl⟩)
    · exact aa_oL (listed' := #[true, true, false, false, false, true, false, false]) rfl rfl rfl rfl (by kernel_rfl) (ao_alloc1 Try.zeroValue64 rfl rfl) (st_015 _ _ ⟨_, rfl, G.next, hk0.push (by omega) _, blk_push_old hk1, blk_push_old hk2, blk_push_old hk3, Nat.le_succ_of_le hn, hn, Nat.lt_succ_self _, blk_push_new _ _, rfl, rfl, rfl, rfl, rfl, rfl⟩)
  have st_03 : ∀ fr G, (∃ get : Nat → Value, fr = ⟨43, get⟩ ∧ Same H.next H G ∧ G.blk H.next = some (.cells (roomC r) 1) ∧ G.blk (H.next + 1) = some (.cells (spot a) 1) ∧ G.blk (H.next + 2) = some (.cells (spot b) 1) ∧ H.next + 3 ≤ G.next ∧ get 3 = .pointer (some ⟨H.next, 0, none⟩) ∧ get 4 = .pointer (some ⟨H.next + 1, 0, none⟩) ∧ get 5 = .pointer (some ⟨H.next + 2, 0, none⟩) ∧ get 23 = .agg (roomC r).toArray ∧ get 26 = .agg #[.int .i8 a.x, .int .i8 a.y]) → AA Try.prog ops_implWay1_r4 Q 6 #[true, false, false, true, false, false, false, false] fr G := by
    rintro fr G ⟨get, rfl, hk0, hk1, hk2, hk3, hn, g3, g4, g5, g23, g26⟩
    refine aa_slot (d := 3) (v := .pointer (some ⟨H.next, 0, none⟩)) g3 ?_
    refine aa_slot (d := 4) (v := .pointer (some ⟨H.next + 1, 0, none⟩)) g4 ?_
    refine aa_slot (d := 5) (v := .pointer (some ⟨H.next + 2, 0, none⟩)) g5 ?_
    refine aa_slot (d := 23) (v := .agg (roomC r).toArray) g23 ?_
    refine aa_slot (d := 26) (v := .agg #[.int .i8 a.x, .int .i8 a.y]) g26 ?_
    refine aax3 (i := 1) (j := 4) (l := 5) (by kernel_rfl) ?_ ?_ ?_
    · exact aa_oL (listed' := #[true, true, false, true, false, false, false, false]) rfl rfl rfl rfl (by kernel_rfl) (ao_loada Try.isAgg33 Try.sizeOf33 rfl (by exact HLp) (by rfl) (by exact RFp)) (st_013 _ _ ⟨_, rfl, hk0, hk1, hk2, hk3, hn, rfl, rfl, rfl, rfl, rfl, rfl⟩)
    · exact aa_oL (listed' := #[true, false, false, true, true, false, false, false]) rfl rfl rfl rfl (by kernel_rfl) (ao_lit1 (v := .agg _) Try.underlying40 Try.sizeOf33 Try.zeroValue33 (by rfl) (by rfl) rfl rfl (by rfl) (by exact RFp)) (st_034 _ _ ⟨_, rfl, G.next, hk0.push (by omega) _, blk_push_old hk1, blk_push_old hk2, blk_push_old hk3, Nat.le_succ_of_le hn, hn, Nat.lt_succ_self _, blk_push_new _ _, rfl, rfl, rfl, rfl, rfl, rfl⟩)
    · exact aa_oL (listed' := #[true, false, false, true, false, true, false, false]) rfl rfl rfl rfl (by kernel_rfl) (ao_alloc1 Try.zeroValue64 rfl rfl) (st_035 _ _ ⟨_, rfl, G.next, hk0.push (by omega) _, blk_push_old hk1, blk_push_old hk2, blk_push_old hk3, Nat.le_succ_of_le hn, hn, Nat.lt_succ_self _, blk_push_new _ _, rfl, rfl, rfl, rfl, rfl, rfl⟩)
  have st_05 : ∀ fr G, (∃ get : Nat → Value, fr = ⟨43, get⟩ ∧ ∃ (b10 : Nat), Same H.next H G ∧ G.blk H.next = some (.cells (roomC r) 1) ∧ G.blk (H.next + 1) = some (.cells (spot a) 1) ∧ G.blk (H.next + 2) = some (.cells (spot b) 1) ∧ H.next + 3 ≤ G.next ∧ H.next + 3 ≤ b10 ∧ b10 < G.next ∧ G.blk b10 = some (.cells [.map none] 1) ∧ get 3 = .pointer (some ⟨H.next, 0, none⟩) ∧ get 4 = .pointer (some ⟨H.next + 1, 0, none⟩) ∧ get 5 = .pointer (some ⟨H.next + 2, 0, none⟩) ∧ get 23 = .agg (roomC r).toArray ∧ get 10 = .pointer (some ⟨b10, 0, none⟩)) → AA Try.prog ops_implWay1_r4 Q 6 #[true, false, false, false, false, true, false, false] fr G := by
    rintro fr G ⟨get, rfl, b10, hk0, hk1, hk2, hk3, hn, hl10, hu10, hc10, g3, g4, g5, g23, g10⟩
    refine aa_slot (d := 3) (v := .pointer (some ⟨H.next, 0, none⟩)) g3 ?_
    refine aa_slot (d := 4) (v := .pointer (some ⟨H.next + 1, 0, none⟩)) g4 ?_
    refine aa_slot (d := 5) (v := .pointer (some ⟨H.next + 2, 0, none⟩)) g5 ?_
    refine aa_slot (d := 23) (v := .agg (roomC r).toArray) g23 ?_
    refine aa_slot (d := 10) (v := .pointer (some ⟨b10, 0, none⟩)) g10 ?_
    refine aax2 (i := 1) (j := 3) (by kernel_rfl) ?_ ?_
    · exact aa_oL (listed' := #[true, true, false, false, false, true, false, false]) rfl rfl rfl rfl (by kernel_rfl) (ao_loada Try.isAgg33 Try.sizeOf33 rfl (by exact HLp) (by rfl) (by exact RFp)) (st_015 _ _ ⟨_, rfl, b10, hk0, hk1, hk2, hk3, hn, hl10, hu10, hc10, rfl, rfl, rfl, rfl, rfl, rfl⟩)
    · exact aa_oL (listed' := #[true, false, false, true, false, true, false, false]) rfl rfl rfl rfl (by kernel_rfl) (ao_loada Try.isAgg33 Try.sizeOf33 rfl (by exact HLp) (by rfl) (by exact RFp)) (st_035 _ _ ⟨_, rfl, b10, hk0, hk1, hk2, hk3, hn, hl10, hu10, hc10, rfl, rfl, rfl, rfl, rfl, rfl⟩)
  have st_13 : ∀ fr G, (∃ get : Nat → Value, fr = ⟨43, get⟩ ∧ Same H.next H G ∧ G.blk H.next = some (.cells (roomC r) 1) ∧ G.blk (H.next + 1) = some (.cells (spot a) 1) ∧ G.blk (H.next + 2) = some (.cells (spot b) 1) ∧ H.next + 3 ≤ G.next ∧ get 3 = .pointer (some ⟨H.next, 0, none⟩) ∧ get 4 = .pointer (some ⟨H.next + 1, 0, none⟩) ∧ get 5 = .pointer (some ⟨H.next + 2, 0, none⟩) ∧ get 24 = .agg #[.int .i8 b.x, .int .i8 b.y] ∧ get 26 = .agg #[.int .i8 a.x, .int .i8 a.y]) → AA Try.prog ops_implWay1_r4 Q 6 #[false, true, false, true, false, false, false, false] fr G := by
    rintro fr G ⟨get, rfl, hk0, hk1, hk2, hk3, hn, g3, g4, g5, g24, g26⟩
    refine aa_slot (d := 3) (v := .pointer (some ⟨H.next, 0, none⟩)) g3 ?_
    refine aa_slot (d := 4) (v := .pointer (some ⟨H.next + 1, 0, none⟩)) g4 ?_
    refine aa_slot (d := 5) (v := .pointer (some ⟨H.next + 2, 0, none⟩)) g5 ?_
    refine aa_slot (d := 24) (v := .agg #[.int .i8 b.x, .int .i8 b.y]) g24 ?_
    refine aa_slot (d := 26) (v := .agg #[.int .i8 a.x, .int .i8 a.y]) g26 ?_
    refine aax3 (i := 0) (j := 4) (l := 5) (by kernel_rfl) ?_ ?_ ?_
    · exact aa_oL (listed' := #[true, true, false, true, false, false, false, false]) rfl rfl rfl rfl (by kernel_rfl) (ao_loada Try.isAgg31 Try.sizeOf31 rfl (by exact HLp) (by rfl) (by exact RFp)) (st_013 _ _ ⟨_, rfl, hk0, hk1, hk2, hk3, hn, rfl, rfl, rfl, rfl, rfl, rfl⟩)
    · exact aa_oL (listed' := #[false, true, false, true, true, false, false, false]) rfl rfl rfl rfl (by kernel_rfl) (ao_lit1 (v := .agg _) Try.underlying40 Try.sizeOf33 Try.zeroValue33 (by rfl) (by rfl) rfl rfl (by rfl) (by exact RFp)) (st_134 _ _ ⟨_, rfl, G.next, hk0.push (by omega) _, blk_push_old hk1, blk_push_old hk2, blk_push_old hk3, Nat.le_succ_of_le hn, hn, Nat.lt_succ_self _, blk_push_new _ _, rfl, rfl, rfl, rfl, rfl, rfl⟩)
    · exact aa_oL (listed' := #[false, true, false, true, false, true, false, false]) rfl rfl rfl rfl (by kernel_rfl) (ao_alloc1 Try.zeroValue64 rfl rfl) (st_135 _ _ ⟨_, rfl, G.next, hk0.push (by omega) _, blk_push_old hk1, blk_push_old hk2, blk_push_old hk3, Nat.le_succ_of_le hn, hn, Nat.lt_succ_self _, blk_push_new _ _, rfl, rfl, rfl, rfl, rfl, rfl⟩)
  have st_15 : ∀ fr G, (∃ get : Nat → Value, fr = ⟨43, get⟩ ∧ ∃ (b10 : Nat), Same H.next H G ∧ G.blk H.next = some (.cells (roomC r) 1) ∧ G.blk (H.next + 1) = some (.cells (spot a) 1) ∧ G.blk (H.next + 2) = some (.cells (spot b) 1) ∧ H.next + 3 ≤ G.next ∧ H.next + 3 ≤ b10 ∧ b10 < G.next ∧ G.blk b10 = some (.cells [.map none] 1) ∧ get 3 = .pointer (some ⟨H.next, 0, none⟩) ∧ get 4 = .pointer (some ⟨H.next + 1, 0, none⟩) ∧ get 5 = .pointer (some ⟨H.next + 2, 0, none⟩) ∧ get 24 = .agg #[.int .i8 b.x, .int .i8 b.y] ∧ get 10 = .pointer (some ⟨b10, 0, none⟩)) → AA Try.prog ops_implWay1_r4 Q 6 #[false, true, false, false, false, true, false, false] fr G := by
    rintro fr G ⟨get, rfl, b10, hk0, hk1, hk2, hk3, hn, hl10, hu10, hc10, g3, g4, g5, g24, g10⟩
    refine aa_slot (d := 3) (v := .pointer (some ⟨H.next, 0, none⟩)) g3 ?_
    refine aa_slot (d := 4) (v := .pointer (some ⟨H.next + 1, 0, none⟩)) g4 ?_
    refine aa_slot (d := 5) (v := .pointer (some ⟨H.next + 2, 0, none⟩)) g5 ?_
    refine aa_slot (d := 24) (v := .agg #[.int .i8 b.x, .int .i8 b.y]) g24 ?_
    refine aa_slot (d := 10) (v := .pointer (some ⟨b10, 0, none⟩)) g10 ?_
    refine aax2 (i := 0) (j := 3) (by kernel_rfl) ?_ ?_
    · exact aa_oL (listed' := #[true, true, false, false, false, true, false, false]) rfl rfl rfl rfl (by kernel_rfl) (ao_loada Try.isAgg31 Try.sizeOf31 rfl (by exact HLp) (by rfl) (by exact RFp)) (st_015 _ _ ⟨_, rfl, b10, hk0, hk1, hk2, hk3, hn, hl10, hu10, hc10, rfl, rfl, rfl, rfl, rfl, rfl⟩)
    · exact aa_oL (listed' := #[false, true, false, true, false, true, false, false]) rfl rfl rfl rfl (by kernel_rfl) (ao_loada Try.isAgg33 Try.sizeOf33 rfl (by exact HLp) (by rfl) (by exact RFp)) (st_135 _ _ ⟨_, rfl, b10, hk0, hk1, hk2, hk3, hn, hl10, hu10, hc10, rfl, rfl, rfl, rfl, rfl, rfl⟩)
  have st_34 : ∀ fr G, (∃ get : Nat → Value, fr = ⟨43, get⟩ ∧ ∃ (b27 : Nat), Same H.next H G ∧ G.blk H.next = some (.cells (roomC r) 1) ∧ G.blk (H.next + 1) = some (.cells (spot a) 1) ∧ G.blk (H.next + 2) = some (.cells (spot b) 1) ∧ H.next + 3 ≤ G.next ∧ H.next + 3 ≤ b27 ∧ b27 < G.next ∧ G.blk b27 = some (.cells (spot a) 2) ∧ get 3 = .pointer (some ⟨H.next, 0, none⟩) ∧ get 4 = .pointer (some ⟨H.next + 1, 0, none⟩) ∧ get 5 = .pointer (some ⟨H.next + 2, 0, none⟩) ∧ get 26 = .agg #[.int .i8 a.x, .int .i8 a.y] ∧ get 27 = .slice (some ⟨b27, 0, none⟩) 1 1) → AA Try.prog ops_implWay1_r4 Q 6 #[false, false, false, true, true, false, false, false] fr G := by
    rintro fr G ⟨get, rfl, b27, hk0, hk1, hk2, hk3, hn, hl27, hu27, hc27, g3, g4, g5, g26, g27⟩
    refine aa_slot (d := 3) (v := .pointer (some ⟨H.next, 0, none⟩)) g3 ?_
    refine aa_slot (d := 4) (v := .pointer (some ⟨H.next + 1, 0, none⟩)) g4 ?_
    refine aa_slot (d := 5) (v := .pointer (some ⟨H.next + 2, 0, none⟩)) g5 ?_
    refine aa_slot (d := 26) (v := .agg #[.int .i8 a.x, .int .i8 a.y]) g26 ?_
    refine aa_slot (d := 27) (v := .slice (some ⟨b27, 0, none⟩) 1 1) g27 ?_
    refine aax3 (i := 0) (j := 1) (l := 5) (by kernel_rfl) ?_ ?_ ?_
    · exact aa_oL (listed' := #[true, false, false, true, true, false, false, false]) rfl rfl rfl rfl (by kernel_rfl) (ao_loada Try.isAgg31 Try.sizeOf31 rfl (by exact HLp) (by rfl) (by exact RFp)) (st_034 _ _ ⟨_, rfl, b27, hk0, hk1, hk2, hk3, hn, hl27, hu27, hc27, rfl, rfl, rfl, rfl, rfl, rfl⟩)
    · exact aa_oL (listed' := #[false, true, false, true, true, false, false, false]) rfl rfl rfl rfl (by kernel_rfl) (ao_loada Try.isAgg33 Try.sizeOf33 rfl (by exact HLp) (by rfl) (by exact RFp)) (st_134 _ _ ⟨_, rfl, b27, hk0, hk1, hk2, hk3, hn, hl27, hu27, hc27, rfl, rfl, rfl, rfl, rfl, rfl⟩)
    · exact aa_oL (listed' := #[false, false, false, true, true, true, false, false]) rfl rfl rfl rfl (by kernel_rfl) (ao_alloc1 Try.zeroValue64 rfl rfl) (st_345 _ _ ⟨_, rfl, b27, G.next, hk0.push (by omega) _, blk_push_old hk1, blk_push_old hk2, blk_push_old hk3, Nat.le_succ_of_le hn, hl27, Nat.lt_succ_of_lt hu27, blk_push_old hc27, hn, Nat.lt_succ_self _, blk_push_new _ _, Nat.ne_of_lt hu27, rfl, rfl, rfl, rfl, rfl, rfl⟩)
  have st_35 : ∀ fr G, (∃ get : Nat → Value, fr = ⟨43, get⟩ ∧ ∃ (b10 : Nat), Same H.next H G ∧ G.blk H.next = some (.cells (roomC r) 1) ∧ G.blk (H.next + 1) = some (.cells (spot a) 1) ∧ G.blk (H.next + 2) = some (.cells (spot b) 1) ∧ H.next + 3 ≤ G.next ∧ H.next + 3 ≤ b10 ∧ b10 < G.next ∧ G.blk b10 = some (.cells [.map none] 1) ∧ get 3 = .pointer (some ⟨H.next, 0, none⟩) ∧ get 4 = .pointer (some ⟨H.next + 1, 0, none⟩) ∧ get 5 = .pointer (some ⟨H.next + 2, 0, none⟩) ∧ get 26 = .agg #[.int .i8 a.x, .int .i8 a.y] ∧ get 10 = .pointer (some ⟨b10, 0, none⟩)) → AA Try.prog ops_implWay1_r4 Q 6 #[false, false, false, true, false, true, false, false] fr G := by
    rintro fr G ⟨get, rfl, b10, hk0, hk1, hk2, hk3, hn, hl10, hu10, hc10, g3, g4, g5, g26, g10⟩
    refine aa_slot (d := 3) (v := .pointer (some ⟨H.next, 0, none⟩)) g3 ?_
    refine aa_slot (d := 4) (v := .pointer (some ⟨H.next + 1, 0, none⟩)) g4 ?_
    refine aa_slot (d := 5) (v := .pointer (some ⟨H.next + 2, 0, none⟩)) g5 ?_
    refine aa_slot (d := 26) (v := .agg #[.int .i8 a.x, .int .i8 a.y]) g26 ?_
    refine aa_slot (d := 10) (v := .pointer (some ⟨b10, 0, none⟩)) g10 ?_
    refine aax3 (i := 0) (j := 1) (l := 4) (by kernel_rfl) ?_ ?_ ?_
    · exact aa_oL (listed' := #[true, false, false, true, false, true, false, false]) rfl rfl rfl rfl (by kernel_rfl) (ao_loada Try.isAgg31 Try.sizeOf31 rfl (by exact HLp) (by rfl) (by exact RFp)) (st_035 _ _ ⟨_, rfl, b10, hk0, hk1, hk2, hk3, hn, hl10, hu10, hc10, rfl, rfl, rfl, rfl, rfl, rfl⟩)
    · exact aa_oL (listed' := #[false, true, false, true, false, true, false, false]) rfl rfl rfl rfl (by kernel_rfl) (ao_loada Try.isAgg33 Try.sizeOf33 rfl (by exact HLp) (by rfl) (by exact RFp)) (st_135 _ _ ⟨_, rfl, b10, hk0, hk1, hk2, hk3, hn, hl10, hu10, hc10, rfl, rfl, rfl, rfl, rfl, rfl⟩)
    · exact aa_oL (listed' := #[false, false, false, true, true, true, false, false]) rfl rfl rfl rfl (by kernel_rfl) (ao_lit1 (v := .agg _) Try.underlying40 Try.sizeOf33 Try.zeroValue33 (by rfl) (by rfl) rfl rfl (by rfl) (by exact RFp)) (st_345 _ _ ⟨_, rfl, G.next, b10, hk0.push (by omega) _, blk_push_old hk1, blk_push_old hk2, blk_push_old hk3, Nat.le_succ_of_le hn, hn, Nat.lt_succ_self _, blk_push_new _ _, hl10, Nat.lt_succ_of_lt hu10, blk_push_old hc10, (Nat.ne_of_gt hu10), rfl, rfl, rfl, rfl, rfl, rfl⟩)
  have st_0 : ∀ fr G, (∃ get : Nat → Value, fr = ⟨43, get⟩ ∧ Same H.next H G ∧ G.blk H.next = some (.cells (roomC r) 1) ∧ G.blk (H.next + 1) = some (.cells (spot a) 1) ∧ G.blk (H.next + 2) = some (.cells (spot b) 1) ∧ H.next + 3 ≤ G.next ∧ get 3 = .pointer (some ⟨H.next, 0, none⟩) ∧ get 4 = .pointer (some ⟨H.next + 1, 0, none⟩) ∧ get 5 = .pointer (some ⟨H.next + 2, 0, none⟩) ∧ get 23 = .agg (roomC r).toArray) → AA Try.prog ops_implWay1_r4 Q 7 #[true, false, false, false, false, false, false, false] fr G := by
    rintro fr G ⟨get, rfl, hk0, hk1, hk2, hk3, hn, g3, g4, g5, g23⟩
    refine aa_slot (d := 3) (v := .pointer (some ⟨H.next, 0, none⟩)) g3 ?_
    refine aa_slot (d := 4) (v := .pointer (some ⟨H.next + 1, 0, none⟩)) g4 ?_
    refine aa_slot (d := 5) (v := .pointer (some ⟨H.next + 2, 0, none⟩)) g5 ?_
    refine aa_slot (d := 23) (v := .agg (roomC r).toArray) g23 ?_
    refine aax3 (i := 1) (j := 3) (l := 5) (by kernel_rfl) ?_ ?_ ?_
    · exact aa_oL (listed' := #[true, true, false, false, false, false, false, false]) rfl rfl rfl rfl (by kernel_rfl) (ao_loada Try.isAgg33 Try.sizeOf33 rfl (by exact HLp) (by rfl) (by exact RFp)) (st_01 _ _ ⟨_, rfl, hk0, hk1, hk2, hk3, hn, rfl, rfl, rfl, rfl, rfl⟩)
    · exact aa_oL (listed' := #[true, false, false, true, false, false, false, false]) rfl rfl rfl rfl (by kernel_rfl) (ao_loada Try.isAgg33 Try.sizeOf33 rfl (by exact HLp) (by rfl) (by exact RFp)) (st_03 _ _ ⟨_, rfl, hk0, hk1, hk2, hk3, hn, rfl, rfl, rfl, rfl, rfl⟩)
    · exact aa_oL (listed' := #[true, false, false, false, false, true, false, false]) rfl rfl rfl rfl (by kernel_rfl) (ao_alloc1 Try.zeroValue64 rfl rfl) (st_05 _ _ ⟨_, rfl, G.next, hk0.push (by omega) _, blk_push_old hk1, blk_push_old hk2, blk_push_old hk3, Nat.le_succ_of_le hn, hn, Nat.lt_succ_self _, blk_push_new _ _, rfl, rfl, rfl, rfl, rfl⟩)
  have st_1 : ∀ fr G, (∃ get : Nat → Value, fr = ⟨43, get⟩ ∧ Same H.next H G ∧ G.blk H.next = some (.cells (roomC r) 1) ∧ G.blk (H.next + 1) = some (.cells (spot a) 1) ∧ G.blk (H.next + 2) = some (.cells (spot b) 1) ∧ H.next + 3 ≤ G.next ∧ get 3 = .pointer (some ⟨H.next, 0, none⟩) ∧ get 4 = .pointer (some ⟨H.next + 1, 0, none⟩) ∧ get 5 = .pointer (some ⟨H.next + 2, 0, none⟩) ∧ get 24 = .agg #[.int .i8 b.x, .int .i8 b.y]) → AA Try.prog ops_implWay1_r4 Q 7 #[false, true, false, false, false, false, false, false] fr G := by
    rintro fr G ⟨get, rfl, hk0, hk1, hk2, hk3, hn, g3, g4, g5, g24⟩
    refine aa_slot (d := 3) (v := .pointer (some ⟨H.next, 0, none⟩)) g3 ?_
    refine aa_slot (d := 4) (v := .pointer (some ⟨H.next + 1, 0, none⟩)) g4 ?_
    refine aa_slot (d := 5) (v := .pointer (some ⟨H.next + 2, 0, none⟩)) g5 ?_
    refine aa_slot (d := 24) (v := .agg #[.int .i8 b.x, .int .i8 b.y]) g24 ?_
    refine aax3 (i := 0) (j := 3) (l := 5) (by kernel_rfl) ?_ ?_ ?_
    · exact aa_oL (listed' := #[true, true, false, false, false, false, false, false]) rfl rfl rfl rfl (by kernel_rfl) (ao_loada Try.isAgg31 Try.sizeOf31 rfl (by exact HLp) (by rfl) (by exact RFp)) (st_01 _ _ ⟨_, rfl, hk0, hk1, hk2, hk3, hn, rfl, rfl, rfl, rfl, rfl⟩)
    · exact aa_oL (listed' := #[false, true, false, true, false, false, false, false]) rfl rfl rfl rfl (by kernel_rfl) (ao_loada Try.isAgg33 Try.sizeOf33 rfl (by exact HLp) (by rfl) (by exact RFp)) (st_13 _ _ ⟨_, rfl, hk0, hk1, hk2, hk3, hn, rfl, rfl, rfl, rfl, rfl⟩)
    · exact aa_oL (listed' := #[false, true, false, false, false, true, false, false]) rfl rfl rfl rfl (by kernel_rfl) (ao_alloc1 Try.zeroValue64 rfl rfl) (st_15 _ _ ⟨_, rfl, G.next, hk0.push (by omega) _, blk_push_old hk1, blk_push_old hk2, blk_push_old hk3, Nat.le_succ_of_le hn, hn, Nat.lt_succ_self _, blk_push_new _ _, rfl, rfl, rfl, rfl, rfl⟩)
  have st_3 : ∀ fr G, (∃ get : Nat → Value, fr = ⟨43, get⟩ ∧ Same H.next H G ∧ G.blk H.next = some (.cells (roomC r) 1) ∧ G.blk (H.next + 1) = some (.cells (spot a) 1) ∧ G.blk (H.next + 2) = some (.cells (spot b) 1) ∧ H.next + 3 ≤ G.next ∧ get 3 = .pointer (some ⟨H.next, 0, none⟩) ∧ get 4 = .pointer (some ⟨H.next + 1, 0, none⟩) ∧ get 5 = .pointer (some ⟨H.next + 2, 0, none⟩) ∧ get 26 = .agg #[.int .i8 a.x, .int .i8 a.y]) → AA Try.prog ops_implWay1_r4 Q 7 #[false, false, false, true, false, false, false, false] fr G := by
    rintro fr G ⟨get, rfl, hk0, hk1, hk2, hk3, hn, g3, g4, g5, g26⟩
    refine aa_slot (d := 3) (v := .pointer (some ⟨H.next, 0, none⟩)) g3 ?_
    refine aa_slot (d := 4) (v := .pointer (some ⟨H.next + 1, 0, none⟩)) g4 ?_
    refine aa_slot (d := 5) (v := .pointer (some ⟨H.next + 2, 0, none⟩)) g5 ?_
    refine aa_slot (d := 26) (v := .agg #[.int .i8 a.x, .int .i8 a.y]) g26 ?_
    refine aax4 (i := 0) (j := 1) (l := 4) (o := 5) (by kernel_rfl) ?_ ?_ ?_ ?_
    · exact aa_oL (listed' := #[true, false, false, true, false, false, false, false]) rfl rfl rfl rfl (by kernel_rfl) (ao_loada Try.isAgg31 Try.sizeOf31 rfl (by exact HLp) (by rfl) (by exact RFp)) (st_03 _ _ ⟨_, rfl, hk0, hk1, hk2, hk3, hn, rfl, rfl, rfl, rfl, rfl⟩)
    · exact aa_oL (listed' := #[false, true, false, true, false, false, false, false]) rfl rfl rfl rfl (by kernel_rfl) (ao_loada Try.isAgg33 Try.sizeOf33 rfl (by exact HLp) (by rfl) (by exact RFp)) (st_13 _ _ ⟨_, rfl, hk0, hk1, hk2, hk3, hn, rfl, rfl, rfl, rfl, rfl⟩)
    · exact aa_oL (listed' := #[false, false, false, true, true, false, false, false]) rfl rfl rfl rfl (by kernel_rfl) (ao_lit1 (v := .agg _) Try.underlying40 Try.sizeOf33 Try.zeroValue33 (by rfl) (by rfl) rfl rfl (by rfl) (by exact RFp)) (st_34 _ _ ⟨_, rfl, G.next, hk0.push (by omega) _, blk_push_old hk1, blk_push_old hk2, blk_push_old hk3, Nat.le_succ_of_le hn, hn, Nat.lt_succ_self _, blk_push_new _ _, rfl, rfl, rfl, rfl, rfl⟩)
    · exact aa_oL (listed' := #[false, false, false, true, false, true, false, false]) rfl rfl rfl rfl (by kernel_rfl) (ao_alloc1 Try.zeroValue64 rfl rfl) (st_35 _ _ ⟨_, rfl, G.next, hk0.push (by omega) _, blk_push_old hk1, blk_push_old hk2, blk_push_old hk3, Nat.le_succ_of_le hn, hn, Nat.lt_succ_self _, blk_push_new _ _, rfl, rfl, rfl, rfl, rfl⟩)
  have st_5 : ∀ fr G, (∃ get : Nat → Value, fr = ⟨43, get⟩ ∧ ∃ (b10 : Nat), Same H.next H G ∧ G.blk H.next = some (.cells (roomC r) 1) ∧ G.blk (H.next + 1) = some (.cells (spot a) 1) ∧ G.blk (H.next + 2) = some (.cells (spot b) 1) ∧ H.next + 3 ≤ G.next ∧ H.next + 3 ≤ b10 ∧ b10 < G.next ∧ G.blk b10 = some (.cells [.map none] 1) ∧ get 3 = .pointer (some ⟨H.next, 0, none⟩) ∧ get 4 = .pointer (some ⟨H.next + 1, 0, none⟩) ∧ get 5 = .pointer (some ⟨H.next + 2, 0, none⟩) ∧ get 10 = .pointer (some ⟨b10, 0, none⟩)) → AA Try.prog ops_implWay1_r4 Q 7 #[false, false, false, false, false, true, false, false] fr G := by
    rintro fr G ⟨get, rfl, b10, hk0, hk1, hk2, hk3, hn, hl10, hu10, hc10, g3, g4, g5, g10⟩
    refine aa_slot (d := 3) (v := .pointer (some ⟨H.next, 0, none⟩)) g3 ?_
    refine aa_slot (d := 4) (v := .pointer (some ⟨H.next + 1, 0, none⟩)) g4 ?_
    refine aa_slot (d := 5) (v := .pointer (some ⟨H.next + 2, 0, none⟩)) g5 ?_
    refine aa_slot (d := 10) (v := .pointer (some ⟨b10, 0, none⟩)) g10 ?_
    refine aax3 (i := 0) (j := 1) (l := 3) (by kernel_rfl) ?_ ?_ ?_
    · exact aa_oL (listed' := #[true, false, false, false, false, true, false, false]) rfl rfl rfl rfl (by kernel_rfl) (ao_loada Try.isAgg31 Try.sizeOf31 rfl (by exact HLp) (by rfl) (by exact RFp)) (st_05 _ _ ⟨_, rfl, b10, hk0, hk1, hk2, hk3, hn, hl10, hu10, hc10, rfl, rfl, rfl, rfl, rfl⟩)
    · exact aa_oL (listed' := #[false, true, false, false, false, true, false, false]) rfl rfl rfl rfl (by kernel_rfl) (ao_loada Try.isAgg33 Try.sizeOf33 rfl (by exact HLp) (by rfl) (by exact RFp)) (st_15 _ _ ⟨_, rfl, b10, hk0, hk1, hk2, hk3, hn, hl10, hu10, hc10, rfl, rfl, rfl, rfl, rfl⟩)
    · exact aa_oL (listed' := #[false, false, false, true, false, true, false, false]) rfl rfl rfl rfl (by kernel_rfl) (ao_loada Try.isAgg33 Try.sizeOf33 rfl (by exact HLp) (by rfl) (by exact RFp)) (st_35 _ _ ⟨_, rfl, b10, hk0, hk1, hk2, hk3, hn, hl10, hu10, hc10, rfl, rfl, rfl, rfl, rfl⟩)
  have st_ : ∀ fr G, (∃ get : Nat → Value, fr = ⟨43, get⟩ ∧ Same H.next H G ∧ G.blk H.next = some (.cells (roomC r) 1) ∧ G.blk (H.next + 1) = some (.cells (spot a) 1) ∧ G.blk (H.next + 2) = some (.cells (spot b) 1) ∧ H.next + 3 ≤ G.next ∧ get 3 = .pointer (some ⟨H.next, 0, none⟩) ∧ get 4 = .pointer (some ⟨H.next + 1, 0, none⟩) ∧ get 5 = .pointer (some ⟨H.next + 2, 0, none⟩)) → AA Try.prog ops_implWay1_r4 Q 8 #[false, false, false, false, false, false, false, false] fr G := by
    rintro fr G ⟨get, rfl, hk0, hk1, hk2, hk3, hn, g3, g4, g5⟩
    refine aa_slot (d := 3) (v := .pointer (some ⟨H.next, 0, none⟩)) g3 ?_
    refine aa_slot (d := 4) (v := .pointer (some ⟨H.next + 1, 0, none⟩)) g4 ?_
    refine aa_slot (d := 5) (v := .pointer (some ⟨H.next + 2, 0, none⟩)) g5 ?_
    refine aax4 (i := 0) (j := 1) (l := 3) (o := 5) (by kernel_rfl) ?_ ?_ ?_ ?_
    · exact aa_oL (listed' := #[true, false, false, false, false, false, false, false]) rfl rfl rfl rfl (by kernel_rfl) (ao_loada Try.isAgg31 Try.sizeOf31 rfl (by exact HLp) (by rfl) (by exact RFp)) (st_0 _ _ ⟨_, rfl, hk0, hk1, hk2, hk3, hn, rfl, rfl, rfl, rfl⟩)
    · exact aa_oL (listed' := #[false, true, false, false, false, false, false, false]) rfl rfl rfl rfl (by kernel_rfl) (ao_loada Try.isAgg33 Try.sizeOf33 rfl (by exact HLp) (by rfl) (by exact RFp)) (st_1 _ _ ⟨_, rfl, hk0, hk1, hk2, hk3, hn, rfl, rfl, rfl, rfl⟩)
    · exact aa_oL (listed' := #[false, false, false, true, false, false, false, false]) rfl rfl rfl rfl (by kernel_rfl) (ao_loada Try.isAgg33 Try.sizeOf33 rfl (by exact HLp) (by rfl) (by exact RFp)) (st_3 _ _ ⟨_, rfl, hk0, hk1, hk2, hk3, hn, rfl, rfl, rfl, rfl⟩)
    · exact aa_oL (listed' := #[false, false, false, false, false, true, false, false]) rfl rfl rfl rfl (by kernel_rfl) (ao_alloc1 Try.zeroValue64 rfl rfl) (st_5 _ _ ⟨_, rfl, G.next, hk0.push (by omega) _, blk_push_old hk1, blk_push_old hk2, blk_push_old hk3, Nat.le_succ_of_le hn, hn, Nat.lt_succ_self _, blk_push_new _ _, rfl, rfl, rfl, rfl⟩)
  exact st_
-- impl.WayBetween
theorem implWay1_c {r : Room} {a b : Spot} {v : Int} {H : AHeap} (hw : wfRoom r) (hwa : wfSpot a) (hwb : wfSpot b) (hcc : twoC r a b 0) (hv : mget (found r a) b = some v) : ACd Try.prog 32 [.agg (roomC r).toArray, .agg #[.int .i8 a.x, .int .i8 a.y], .agg #[.int .i8 b.x, .int .i8 b.y]] H (.tuple #[.slice (some ⟨H.next, 0, none⟩) (wayN r a b v.toNat).length ((wayN r a b v.toNat).length + 1), .int .i64 0]) (H.push (.cells (fl spot (wayN r a b v.toNat)) 2)) := by
  have ⟨hr, hfa, hfb⟩ := two_ok hcc
  have hwl := wayN_len r a b v.toNat
  have hv' := found_symm hfa hv
  have hvp := found_pos hfb hv'
  refine ac_gcs (vrl_fl spot_plain _) (ac_body Try.func32 rfl Try.ntmps32 rfl ?_)
  refine aw_seq ?_
  refine aw_region ?_
  refine al_opd rfl rfl rfl (ao_boxa (by rfl)) ?_
  refine al_opd rfl rfl rfl (ao_boxa (by rfl)) ?_
  refine al_opd rfl rfl rfl (ao_boxa (by rfl)) ?_
  refine al_opd rfl rfl rfl (ao_as (v := .slice _ _ _) rfl) ?_
  refine al_opd rfl rfl rfl (ao_as (v := .int _ _) rfl) ?_
  refine al_nilT ?_
  refine aw_seq ?_
  refine aw_seq ?_
  refine aw_region ?_
  refine al_opd rfl rfl rfl (ao_loada Try.isAgg31 Try.sizeOf31 rfl (by exact HLp) (by rfl) (by exact RFp)) ?_
  refine al_opd rfl rfl rfl (ao_loada Try.isAgg33 Try.sizeOf33 rfl (by exact HLp) (by rfl) (by exact RFp)) ?_
  refine al_opd rfl rfl rfl (ao_loada Try.isAgg33 Try.sizeOf33 rfl (by exact HLp) (by rfl) (by exact RFp)) ?_
  refine al_opd rfl rfl rfl (ao_calld (implSteps1b_c (r := r) (a := a) (b := b) (v := v) hw hwa hwb hcc hv) Try.call13 rfl rfl) ?_
  refine al_opd rfl rfl rfl (ao_mv (v := .tuple _) rfl) ?_
  refine al_opd rfl rfl rfl (ao_extract (v := .int _ _) rfl rfl) ?_
  refine al_opd rfl rfl rfl (ao_extract (v := .int _ _) rfl rfl) ?_
  refine al_opd rfl rfl rfl (ao_as (v := .int _ _) rfl) ?_
  refine al_opd rfl rfl rfl (ao_as (v := .int _ _) rfl) ?_
  refine al_nilT ?_
  refine aw_seq ?_
  refine aw_region ?_
  refine al_opd rfl rfl rfl (ao_mv (v := .int _ _) rfl) ?_
  refine al_opd rfl rfl rfl (ao_neq rfl rfl) ?_
  refine al_nilT ?_
  refine aw_cond rfl (fun h1_ => ?_) (fun h1_ => ?_)
  · try simp only [decide_eq_true_eq, decide_eq_false_iff_not, Bool.not_eq_true', Bool.not_eq_false', Bool.and_eq_true, Bool.or_eq_true, Bool.and_eq_false_iff, Bool.or_eq_false_iff, beq_iff_eq, bne_iff_ne, beq_eq_false_iff_ne, bne_eq_false_iff_eq, ne_eq, Decidable.not_not, Bool.decide_eq_true] at h1_
    first | done | omega | (exfalso; revert h1_; simp; (first | done | omega))
  · try simp only [decide_eq_true_eq, decide_eq_false_iff_not, Bool.not_eq_true', Bool.not_eq_false', Bool.and_eq_true, Bool.or_eq_true, Bool.and_eq_false_iff, Bool.or_eq_false_iff, beq_iff_eq, bne_iff_ne, beq_eq_false_iff_ne, bne_eq_false_iff_eq, ne_eq, Decidable.not_not, Bool.decide_eq_true] at h1_
    refine aw_skipT ?_
    refine aw_seq ?_
    refine aw_cut (fun (fr : AFr) (G : AHeap) => ∃ get : Nat → Value, fr = ⟨43, get⟩ ∧ ∃ (b25 b27 b10 : Nat), Same H.next H G ∧ G.blk H.next = some (.cells (roomC r) 1) ∧ G.blk (H.next + 1) = some (.cells (spot a) 1) ∧ G.blk (H.next + 2) = some (.cells (spot b) 1) ∧ H.next + 3 ≤ G.next ∧ H.next + 3 ≤ b25 ∧ b25 < G.next ∧ G.blk b25 = some (mapB (found r b)) ∧ H.next + 3 ≤ b27 ∧ b27 < G.next ∧ G.blk b27 = some (.cells (spot a) 2) ∧ H.next + 3 ≤ b10 ∧ b10 < G.next ∧ G.blk b10 = some (.cells [.map (some b25)] 1) ∧ b25 ≠ b27 ∧ b25 ≠ b10 ∧ b27 ≠ b10 ∧ get 3 = .pointer (some ⟨H.next, 0, none⟩) ∧ get 4 = .pointer (some ⟨H.next + 1, 0, none⟩) ∧ get 5 = .pointer (some ⟨H.next + 2, 0, none⟩) ∧ get 23 = .agg (roomC r).toArray ∧ get 24 = .agg #[.int .i8 b.x, .int .i8 b.y] ∧ get 25 = .map (some b25) ∧ get 26 = .agg #[.int .i8 a.x, .int .i8 a.y] ∧ get 27 = .slice (some ⟨b27, 0, none⟩) 1 1 ∧ get 10 = .pointer (some ⟨b10, 0, none⟩) ∧ get 11 = .slice (some ⟨b27, 0, none⟩) 1 1) ?_ ?_
    · exact aa_region mo (implWay1_r4_c hw hwb hfb (fun fr G h => thenA_n h) _ _ ⟨_, rfl, by exact SMp, by exact HLp, by exact HLp, by exact HLp, by exact LEp, rfl, rfl, rfl⟩)
    · rintro fr G ⟨get, rfl, b25, b27, b10, hk0, hk1, hk2, hk3, hn, hl25, hu25, hc25, hl27, hu27, hc27, hl10, hu10, hc10, he25_27, he25_10, he27_10, g3, g4, g5, g23, g24, g25, g26, g27, g10, g11⟩
      refine aw_slot (d := 3) (v := .pointer (some ⟨H.next, 0, none⟩)) g3 ?_
      refine aw_slot (d := 4) (v := .pointer (some ⟨H.next + 1, 0, none⟩)) g4 ?_
      refine aw_slot (d := 5) (v := .pointer (some ⟨H.next + 2, 0, none⟩)) g5 ?_
      refine aw_slot (d := 10) (v := .pointer (some ⟨b10, 0, none⟩)) g10 ?_
      refine aw_slot (d := 11) (v := .slice (some ⟨b27, 0, none⟩) 1 1) g11 ?_
      refine aw_seq ?_
      refine aw_block ?_
      refine aw_loop (fun (gk : Nat) (fr : AFr) (G : AHeap) => ∃ get : Nat → Value, fr = ⟨43, get⟩ ∧ (∃ (k qb n c : Nat), (k : Int) ≤ v ∧ gk = v.toNat - k ∧ n = k + 1 ∧ n ≤ c ∧ Same H.next H G ∧ G.blk H.next = some (.cells (roomC r) 1) ∧ G.blk (H.next + 1) = some (.cells (spot (posW r a b k)) 1) ∧ G.blk (H.next + 2) = some (.cells (spot b) 1) ∧ G.blk b25 = some (mapB (found r b)) ∧ G.blk b10 = some (.cells [.map (some b25)] 1) ∧ b25 < G.next ∧ b10 < G.next ∧ H.next + 3 ≤ G.next ∧ qb ≠ b25 ∧ H.next + 3 ≤ qb ∧ qb < G.next ∧ qb ≠ b10 ∧ G.blk qb = some (.cells (fl spot (wayN r a b k)) 2) ∧ get 3 = .pointer (some ⟨H.next, 0, none⟩) ∧ get 4 = .pointer (some ⟨H.next + 1, 0, none⟩) ∧ get 5 = .pointer (some ⟨H.next + 2, 0, none⟩) ∧ get 10 = .pointer (some ⟨b10, 0, none⟩) ∧ get 11 = .slice (some ⟨qb, 0, none⟩) n c)) (v.toNat) ⟨_, rfl, ?_⟩ ?_
      · refine ⟨0, b27, 1, 1, by omega, rfl, rfl, Nat.le_refl _, by exact SMp, by exact HLp, by exact HLp, by exact HLp, by exact HLp, by exact HLp, ?_, ?_, ?_, ?_, ?_, ?_, ?_, by exact HLp, rfl, rfl, rfl, rfl, rfl⟩ <;> exact LNp
      · rintro gk fr G ⟨get, rfl, k, qb, n, c, hk, rfl, hn, hc, hG, hb0, hb1, hb2, hbm, hb5, hlm, hl5, hnx, hqm, hqb, hlt, hq5, hkb, g3, g4, g5, g10, g11⟩
        have hpk := pos_at hfb hv' k hk
        have hfk := found_free hfb hpk
        have hwk := wf_of_free hfk
        have hbl : (beside r (posW r a b k)).length ≤ 4 := beside_len r (posW r a b k) 4
        have hkl := keep_le (fun s => !candB r b (posW r a b k) s) (beside r (posW r a b k))
        refine aw_slot (d := 3) (v := .pointer (some ⟨H.next, 0, none⟩)) (by first | assumption | rfl) ?_
        refine aw_slot (d := 4) (v := .pointer (some ⟨H.next + 1, 0, none⟩)) (by first | assumption | rfl) ?_
        refine aw_slot (d := 5) (v := .pointer (some ⟨H.next + 2, 0, none⟩)) (by first | assumption | rfl) ?_
        refine aw_slot (d := 10) (v := .pointer (some ⟨b10, 0, none⟩)) (by first | assumption | rfl) ?_
        refine aw_slot (d := 11) (v := .slice (some ⟨qb, 0, none⟩) n c) (by first | assumption | rfl) ?_
        refine aw_seq ?_
        refine aw_seq ?_
        refine aw_region ?_
        refine al_opd rfl rfl rfl (ao_loada Try.isAgg33 Try.sizeOf33 rfl (by exact HLp) (by rfl) (by exact RFp)) ?_
        refine al_opd rfl rfl rfl (ao_loada Try.isAgg33 Try.sizeOf33 rfl (by exact HLp) (by rfl) (by exact RFp)) ?_
        refine al_opd rfl rfl rfl (ao_neV Try.eqGuardType33 rfl rfl rfl rfl (eqS33 _ _ _ _)) ?_
        refine al_nilT ?_
        refine aw_cond rfl (fun h2_ => ?_) (fun h2_ => ?_)
        · try simp only [decide_eq_true_eq, decide_eq_false_iff_not, Bool.not_eq_true', Bool.not_eq_false', Bool.and_eq_true, Bool.or_eq_true, Bool.and_eq_false_iff, Bool.or_eq_false_iff, beq_iff_eq, bne_iff_ne, beq_eq_false_iff_ne, bne_eq_false_iff_eq, ne_eq, Decidable.not_not, Bool.decide_eq_true] at h2_
          have hkv := pos_lt hfb hv' hk h2_
          have hkc : (keepL (fun s => !candB r b (posW r a b k) s) (beside r (posW r a b k))) = (beside r (posW r a b k)).filter (candB r b (posW r a b k)) := keep_cand _ _
          have hkpos : 0 < (keepL (fun s => !candB r b (posW r a b k) s) (beside r (posW r a b k))).length := by rw [hkc]; exact List.length_pos_iff.mpr (cand_ne hfb hpk (by omega))
          have hkw : ∀ s ∈ (keepL (fun s => !candB r b (posW r a b k) s) (beside r (posW r a b k))), wfSpot s := fun s hs => beside_wf s (List.mem_filter.mp hs).1
          have hmn : headMin (keepL (fun s => !candB r b (posW r a b k) s) (beside r (posW r a b k))) ⟨-1, 0⟩ = nextW r b (posW r a b k) := by rw [hkc]; rfl
          refine aw_skipT ?_
          refine aw_block ?_
          refine aw_seq ?_
          refine aw_region ?_
          refine al_opd rfl rfl rfl (ao_loada Try.isAgg31 Try.sizeOf31 rfl (by exact HLp) (by rfl) (by exact RFp)) ?_
          refine al_opd rfl rfl rfl (ao_loada Try.isAgg33 Try.sizeOf33 rfl (by exact HLp) (by rfl) (by exact RFp)) ?_
          refine al_opd rfl rfl rfl (ao_calld (implBeside_c (r := r) (s := (posW r a b k)) hw hwk) Try.call60 rfl rfl) ?_
          refine al_opd rfl rfl rfl (ao_makeFunc rfl rfl) ?_
          refine al_opd rfl rfl rfl ((ao_calld (delF_c (fnum := 61) (fs := #[]) (cs := #[.pointer (some ⟨b10, 0, none⟩), .pointer (some ⟨H.next + 1, 0, none⟩)]) (l := (beside r (posW r a b k))) (p := (fun s => !candB r b (posW r a b k) s)) (lb := G.next) Try.call61 (fun G' s hm hoth => (by obtain ⟨u, hu, _⟩ := found_clo hfb hpk hm; exact wayB1_c (mb := b25) (u := u) ((hoth _ (by exact LNp) (by omega)).trans (by exact HLp)) ((hoth _ (by exact LNp) (by omega)).trans (by exact HLp)) ((hoth _ (by exact LNp) (by omega)).trans (by exact HLp)) hu hpk hfb)) (by exact HLp) (by omega)) Try.call59 rfl rfl).to (SetR.eq (by exact SRp))) ?_
          refine al_opd rfl rfl rfl (ao_as (v := .slice _ _ _) rfl) ?_
          refine al_nilT ?_
          refine aw_seq ?_
          refine aw_region ?_
          refine al_opd rfl rfl rfl (ao_mv (v := .slice _ _ _) rfl) ?_
          refine al_opd rfl rfl rfl (ao_calld (minF_c (l := (keepL (fun s => !candB r b (posW r a b k) s) (beside r (posW r a b k)))) (Sl.part (l := delL (fun s => !candB r b (posW r a b k) s) (beside r (posW r a b k))) (i := 0) spot_len (by exact HLp) rfl rfl rfl (del_take _ _) rfl) hkpos (by omega) hkw) Try.call62 rfl rfl) ?_
          first | refine al_opd rfl rfl rfl ((ao_storeL Try.sizeOf33 (by rfl) (by rfl) (by exact HLp) (by exact RFp) (by exact RFp) (by exact RFp)).to (SetR.eq (by exact SRp))) ?_ | refine al_opd rfl rfl rfl ((ao_storeP (ds := [.int _ _, .int _ _]) Try.sizeOf33 (by rfl) (by rfl) (by exact HLp) (by exact RFp) (by exact RFp) (by exact LTp)).to (SetR.eq (by exact SRp))) ?_
          refine al_nilT ?_
          refine aw_region ?_
          refine al_opd rfl rfl rfl (ao_mv (v := .slice _ _ _) rfl) ?_
          refine al_opd rfl rfl rfl (ao_loada Try.isAgg33 Try.sizeOf33 rfl (by exact HLp) (by rfl) (by exact RFp)) ?_
          refine al_opd rfl rfl rfl (ao_lit1 (v := .agg _) Try.underlying40 Try.sizeOf33 Try.zeroValue33 (by rfl) (by rfl) rfl rfl (by rfl) (by exact RFp)) ?_
          refine al_opd rfl rfl rfl (ao_appC Try.underlying40 ⟨_, Try.underlying40⟩ elem33 (by rfl) (by rfl) (by exact HLp) (by (rw [fl_len spot_len, wayN_len, hn]; omega)) (by exact SCp) (by first | rfl | simp [isOne]) (by exact BDp) (by exact BDp)) ?_
          refine al_opd rfl rfl rfl (ao_as (v := .slice _ _ _) rfl) ?_
          refine al_nilB ?_
          refine thenA_n ?_
          refine ⟨_, ?_, _, rfl, k + 1, _, n + 1, _, by omega, rfl, by omega, Nat.le_succ _, by exact SMp, by exact HLp, by show _ = some (ABlk.cells (spot (nextW r b (posW r a b k))) 1); rw [← hmn]; exact (by exact HLp), by exact HLp, by exact HLp, by exact HLp, ?_, ?_, ?_, ?_, ?_, ?_, ?_, by rw [wayN_succ, fl_snoc, ← hmn]; exact (by exact HLp), rfl, rfl, rfl, rfl, by rfl⟩
          · omega
          · exact LNp
          · exact LNp
          · exact LNp
          · exact LNp
          · exact LNp
          · exact LNp
          · exact LNp
        · try simp only [decide_eq_true_eq, decide_eq_false_iff_not, Bool.not_eq_true', Bool.not_eq_false', Bool.and_eq_true, Bool.or_eq_true, Bool.and_eq_false_iff, Bool.or_eq_false_iff, beq_iff_eq, bne_iff_ne, beq_eq_false_iff_ne, bne_eq_false_iff_eq, ne_eq, Decidable.not_not, Bool.decide_eq_true] at h2_
          have hke := pos_eq hfb hv' hk h2_
          subst hke
          refine aw_exit ?_
          refine thenA_x ?_
          refine thenA_x ?_
          refine blockA_hit ?_
          refine thenA_n ?_
          refine aw_seq ?_
          refine aw_region ?_
          refine al_opd rfl rfl rfl (ao_mv (v := .slice _ _ _) rfl) ?_
          refine al_opd rfl rfl rfl (ao_as (v := .slice _ _ _) rfl) ?_
          refine al_opd rfl rfl rfl (ao_as (v := .int _ _) rfl) ?_
          refine al_nilT ?_
          refine aw_ret ?_
          refine ends2 rfl (rv_tmp (v := .slice _ _ _) rfl) (rv_tmp (v := .int _ _) rfl) ?_
          obtain rfl : n = (wayN r a b v.toNat).length := by omega
          exact ⟨hG, qb, by omega, hkb, fun ρ h => vr_tup2 (vr_sl h (by omega) (by omega)) (.int _ _)⟩

-- impl.WayBetween
theorem implWay6_c {r : Room} {a b : Spot} {H : AHeap} (hw : wfRoom r) (hwa : wfSpot a) (hwb : wfSpot b) (hcc : twoC r a b 0) (hv : mget (found r a) b = none) : ACd Try.prog 32 [.agg (roomC r).toArray, .agg #[.int .i8 a.x, .int .i8 a.y], .agg #[.int .i8 b.x, .int .i8 b.y]] H (.tuple #[.slice none 0 0, .int .i64 6]) (H) := by
  refine ac_gc0 (fun β => VR.plainT β (by first | rfl | simp [plainT, plainV, plain1])) (ac_body Try.func32 rfl Try.ntmps32 rfl ?_)
  refine aw_seq ?_
  refine aw_region ?_
  refine al_opd rfl rfl rfl (ao_boxa (by rfl)) ?_
  refine al_opd rfl rfl rfl (ao_boxa (by rfl)) ?_
  refine al_opd rfl rfl rfl (ao_boxa (by rfl)) ?_
  refine al_opd rfl rfl rfl (ao_as (v := .slice _ _ _) rfl) ?_
  refine al_opd rfl rfl rfl (ao_as (v := .int _ _) rfl) ?_
  refine al_nilT ?_
  refine aw_seq ?_
  refine aw_seq ?_
  refine aw_region ?_
  refine al_opd rfl rfl rfl (ao_loada Try.isAgg31 Try.sizeOf31 rfl (by exact HLp) (by rfl) (by exact RFp)) ?_
  refine al_opd rfl rfl rfl (ao_loada Try.isAgg33 Try.sizeOf33 rfl (by exact HLp) (by rfl) (by exact RFp)) ?_
  refine al_opd rfl rfl rfl (ao_loada Try.isAgg33 Try.sizeOf33 rfl (by exact HLp) (by rfl) (by exact RFp)) ?_
  refine al_opd rfl rfl rfl (ao_calld (implSteps6b_c (r := r) (a := a) (b := b) hw hwa hwb hcc hv) Try.call13 rfl rfl) ?_
  refine al_opd rfl rfl rfl (ao_mv (v := .tuple _) rfl) ?_
  refine al_opd rfl rfl rfl (ao_extract (v := .int _ _) rfl rfl) ?_
  refine al_opd rfl rfl rfl (ao_extract (v := .int _ _) rfl rfl) ?_
  refine al_opd rfl rfl rfl (ao_as (v := .int _ _) rfl) ?_
  refine al_opd rfl rfl rfl (ao_as (v := .int _ _) rfl) ?_
  refine al_nilT ?_
  refine aw_seq ?_
  refine aw_region ?_
  refine al_opd rfl rfl rfl (ao_mv (v := .int _ _) rfl) ?_
  refine al_opd rfl rfl rfl (ao_neq rfl rfl) ?_
  refine al_nilT ?_
  refine aw_cond rfl (fun h1_ => ?_) (fun h1_ => ?_)
  · try simp only [decide_eq_true_eq, decide_eq_false_iff_not, Bool.not_eq_true', Bool.not_eq_false', Bool.and_eq_true, Bool.or_eq_true, Bool.and_eq_false_iff, Bool.or_eq_false_iff, beq_iff_eq, bne_iff_ne, beq_eq_false_iff_ne, bne_eq_false_iff_eq, ne_eq, Decidable.not_not, Bool.decide_eq_true] at h1_
    refine aw_seq ?_
    refine aw_region ?_
    refine al_opd rfl rfl rfl (ao_mv (v := .int _ _) rfl) ?_
    refine al_opd rfl rfl rfl (ao_as (v := .slice _ _ _) rfl) ?_
    refine al_opd rfl rfl rfl (ao_as (v := .int _ _) rfl) ?_
    refine al_nilT ?_
    refine aw_ret ?_
    refine thenA_r ?_
    refine ends2 rfl (rv_tmp (v := .slice _ _ _) rfl) (rv_tmp (v := .int _ _) rfl) ?_
    exact ⟨by first | rfl | (simp [*]; (first | done | fail)), by exact SMp⟩
  · try simp only [decide_eq_true_eq, decide_eq_false_iff_not, Bool.not_eq_true', Bool.not_eq_false', Bool.and_eq_true, Bool.or_eq_true, Bool.and_eq_false_iff, Bool.or_eq_false_iff, beq_iff_eq, bne_iff_ne, beq_eq_false_iff_ne, bne_eq_false_iff_eq, ne_eq, Decidable.not_not, Bool.decide_eq_true] at h1_
    first | done | omega | (exfalso; revert h1_; simp; (first | done | omega))

-- impl.WayBetween
theorem implWay0_c {r : Room} {a b : Spot} {c : Int} {H : AHeap} (hw : wfRoom r) (hwa : wfSpot a) (hwb : wfSpot b) (hcc : twoC r a b c) (h0 : c ≠ 0) : ACd Try.prog 32 [.agg (roomC r).toArray, .agg #[.int .i8 a.x, .int .i8 a.y], .agg #[.int .i8 b.x, .int .i8 b.y]] H (.tuple #[.slice none 0 0, .int .i64 c]) (H) := by
  refine ac_gc0 (fun β => VR.plainT β (by first | rfl | simp [plainT, plainV, plain1])) (ac_body Try.func32 rfl Try.ntmps32 rfl ?_)
  refine aw_seq ?_
  refine aw_region ?_
  refine al_opd rfl rfl rfl (ao_boxa (by rfl)) ?_
  refine al_opd rfl rfl rfl (ao_boxa (by rfl)) ?_
  refine al_opd rfl rfl rfl (ao_boxa (by rfl)) ?_
  refine al_opd rfl rfl rfl (ao_as (v := .slice _ _ _) rfl) ?_
  refine al_opd rfl rfl rfl (ao_as (v := .int _ _) rfl) ?_
  refine al_nilT ?_
  refine aw_seq ?_
  refine aw_seq ?_
  refine aw_region ?_
  refine al_opd rfl rfl rfl (ao_loada Try.isAgg31 Try.sizeOf31 rfl (by exact HLp) (by rfl) (by exact RFp)) ?_
  refine al_opd rfl rfl rfl (ao_loada Try.isAgg33 Try.sizeOf33 rfl (by exact HLp) (by rfl) (by exact RFp)) ?_
  refine al_opd rfl rfl rfl (ao_loada Try.isAgg33 Try.sizeOf33 rfl (by exact HLp) (by rfl) (by exact RFp)) ?_
  refine al_opd rfl rfl rfl (ao_calld (implSteps0b_c (r := r) (a := a) (b := b) (c := c) hw hwa hwb hcc h0) Try.call13 rfl rfl) ?_
  refine al_opd rfl rfl rfl (ao_mv (v := .tuple _) rfl) ?_
  refine al_opd rfl rfl rfl (ao_extract (v := .int _ _) rfl rfl) ?_
  refine al_opd rfl rfl rfl (ao_extract (v := .int _ _) rfl rfl) ?_
  refine al_opd rfl rfl rfl (ao_as (v := .int _ _) rfl) ?_
  refine al_opd rfl rfl rfl (ao_as (v := .int _ _) rfl) ?_
  refine al_nilT ?_
  refine aw_seq ?_
  refine aw_region ?_
  refine al_opd rfl rfl rfl (ao_mv (v := .int _ _) rfl) ?_
  refine al_opd rfl rfl rfl (ao_neq rfl rfl) ?_
  refine al_nilT ?_
  refine aw_cond rfl (fun h1_ => ?_) (fun h1_ => ?_)
  · try simp only [decide_eq_true_eq, decide_eq_false_iff_not, Bool.not_eq_true', Bool.not_eq_false', Bool.and_eq_true, Bool.or_eq_true, Bool.and_eq_false_iff, Bool.or_eq_false_iff, beq_iff_eq, bne_iff_ne, beq_eq_false_iff_ne, bne_eq_false_iff_eq, ne_eq, Decidable.not_not, Bool.decide_eq_true] at h1_
    refine aw_seq ?_
    refine aw_region ?_
    refine al_opd rfl rfl rfl (ao_mv (v := .int _ _) rfl) ?_
    refine al_opd rfl rfl rfl (ao_as (v := .slice _ _ _) rfl) ?_
    refine al_opd rfl rfl rfl (ao_as (v := .int _ _) rfl) ?_
    refine al_nilT ?_
    refine aw_ret ?_
    refine thenA_r ?_
    refine ends2 rfl (rv_tmp (v := .slice _ _ _) rfl) (rv_tmp (v := .int _ _) rfl) ?_
    exact ⟨by first | rfl | (simp [*]; (first | done | fail)), by exact SMp⟩
  · try simp only [decide_eq_true_eq, decide_eq_false_iff_not, Bool.not_eq_true', Bool.not_eq_false', Bool.and_eq_true, Bool.or_eq_true, Bool.and_eq_false_iff, Bool.or_eq_false_iff, beq_iff_eq, bne_iff_ne, beq_eq_false_iff_ne, bne_eq_false_iff_eq, ne_eq, Decidable.not_not, Bool.decide_eq_true] at h1_
    first | done | omega | (exfalso; revert h1_; simp; (first | done | omega))

end Go.Proofs.Ytkjmcolnoehjbaa
