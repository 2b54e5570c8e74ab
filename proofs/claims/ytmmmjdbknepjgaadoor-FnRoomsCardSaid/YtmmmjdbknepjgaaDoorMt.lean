/- Contracts of the program's functions over abstract heaps. -/
import Derived.Test.YtmmmjdbknepjgaaDoorGb
import Derived.Test.YtmmmjdbknepjgaaDoorVr
import Derived.Test.YtmmmjdbknepjgaaDoorFr
namespace Go.Proofs.YtmmmjdbknepjgaaDoor
open Go Go.AW Go.Proofs
set_option linter.unusedVariables false
set_option linter.unusedSimpArgs false
set_option maxRecDepth 100000
set_option maxHeartbeats 2000000

-- spec.MirrorRoom
theorem specMirror1_c {r : Room} {H : AHeap} (hw : wfRoom r) (hr : okRoom r) : ACd Tryd.prog 9 [.agg (roomC r).toArray] H (.tuple #[.agg (roomC (mirrorR r)).toArray, .int .i64 0]) (H) := by
  have ⟨r1, r2, r3, r4, r5⟩ := hr
  refine ac_gc0 (fun β => VR.plainT β (by first | rfl | simp [plainT, plainV, plain1])) (ac_body Tryd.func9 rfl Tryd.ntmps9 rfl ?_)
  refine aw_seq ?_
  refine aw_region ?_
  refine al_opd rfl rfl rfl (ao_boxa (by rfl)) ?_
  refine al_opd rfl rfl rfl (ao_alloca (zv28) (by rfl)) ?_
  refine al_opd rfl rfl rfl (ao_as (v := .int _ _) rfl) ?_
  refine al_nilT ?_
  refine aw_seq ?_
  refine aw_seq ?_
  refine aw_region ?_
  refine al_opd rfl rfl rfl (ao_calld (l01Ok_c (r := r) (b := true) (by exact HLp) hw (yes hr)) Tryd.call44 rfl rfl) ?_
  refine al_opd rfl rfl rfl (ao_not rfl) ?_
  refine al_nilT ?_
  refine aw_cond rfl (fun h1_ => ?_) (fun h1_ => ?_)
  · try simp only [nrm] at h1_
    first | done | omega | (exfalso; revert h1_; simp; (first | done | omega))
  try simp only [nrm] at h1_
  refine aw_skipT ?_
  refine aw_seq ?_
  refine aw_region ?_
  refine al_opd rfl rfl rfl (ao_fieldAddr fo_28_0 rfl) ?_
  refine al_opd rfl rfl rfl (ao_load (v := .int _ _) Tryd.isAgg24 (by rfl) (by exact HLp) (by rfl) (by exact RFp)) ?_
  refine al_opd rfl rfl rfl (ao_fieldAddr fo_28_1 rfl) ?_
  refine al_opd rfl rfl rfl (ao_load (v := .int _ _) Tryd.isAgg24 (by rfl) (by exact HLp) (by rfl) (by exact RFp)) ?_
  refine al_opd rfl rfl rfl (ao_build (A := (roomC (zM r)).toArray) Tryd.zeroValue28 (by rfl) (by first | rfl | kernel_rfl) (by rfl) (by first | rfl | kernel_rfl)) ?_
  refine al_opd rfl rfl rfl (ao_alloca (zv28) (by rfl)) ?_
  first | refine al_opd rfl rfl rfl ((ao_storeL Tryd.sizeOf28 (by rfl) (by rfl) (by exact HLp) (by exact RFp) (by exact RFp) (by exact RFp)).to (SetR.eq (by exact SRp))) ?_ | refine al_opd rfl rfl rfl ((ao_storeP (ds := [.int _ _, .int _ _, .int _ _, .int _ _, .int _ _, .int _ _, .int _ _, .int _ _, .int _ _, .int _ _, .int _ _, .int _ _]) Tryd.sizeOf28 (by rfl) (by rfl) (by exact HLp) (by exact RFp) (by exact RFp) (by exact LTp)).to (SetR.eq (by exact SRp))) ?_
  refine al_nilT ?_
  refine aw_seq ?_
  refine aw_seq ?_
  refine aw_region ?_
  refine al_opd rfl rfl rfl (ao_as (v := .int _ _) rfl) ?_
  refine al_nilT ?_
  refine aw_block ?_
  refine aw_loop (fun (gk : Nat) (fr : AFr) (G : AHeap) => ∃ get : Nat → Value, fr = ⟨41, get⟩ ∧ (∃ y : Nat, (y : Int) ≤ r.h ∧ gk = (r.h).toNat - y ∧ G = ((H.push (.cells (roomC r) 1)).push (.cells [.int .i8 0, .int .i8 0, .int .u16 0, .int .u16 0, .int .u16 0, .int .u16 0, .int .u16 0, .int .u16 0, .int .u16 0, .int .u16 0, .int .u16 0, .int .u16 0] 1)).push (.cells (roomC (putAll (gM r) (qM r) (zM r) (cellsTo ((zM r)).w.toNat y 0))) 1) ∧ get 1 = .pointer (some ⟨H.next, 0, none⟩) ∧ get 2 = .pointer (some ⟨H.next + 1, 0, none⟩) ∧ get 4 = .pointer (some ⟨H.next + 2, 0, none⟩) ∧ get 5 = .int .i8 y)) ((r.h).toNat) ⟨_, rfl, ?_⟩ ?_
  · exact ⟨0, by omega, rfl, rfl, rfl, rfl, rfl, rfl⟩
  · rintro gk fr G ⟨get, rfl, y, hy, rfl, rfl, g1, g2, g4, g5⟩
    have hdm : (putAll (gM r) (qM r) (zM r) (cellsTo ((zM r)).w.toNat y 0)).w = r.w ∧ (putAll (gM r) (qM r) (zM r) (cellsTo ((zM r)).w.toNat y 0)).h = r.h := putAll_dims _ _ _ _
    refine aw_slot (d := 1) (v := .pointer (some ⟨H.next, 0, none⟩)) (by first | assumption | rfl) ?_
    refine aw_slot (d := 2) (v := .pointer (some ⟨H.next + 1, 0, none⟩)) (by first | assumption | rfl) ?_
    refine aw_slot (d := 4) (v := .pointer (some ⟨H.next + 2, 0, none⟩)) (by first | assumption | rfl) ?_
    refine aw_slot (d := 5) (v := .int .i8 y) (by first | assumption | rfl) ?_
    refine aw_seq ?_
    refine aw_seq ?_
    refine aw_region ?_
    refine al_opd rfl rfl rfl (ao_mv (v := .int _ _) rfl) ?_
    refine al_opd rfl rfl rfl (ao_fieldAddr fo_28_1 rfl) ?_
    refine al_opd rfl rfl rfl (ao_load (v := .int _ _) Tryd.isAgg24 (by rfl) (by exact HLp) (by rfl) (by exact RFp)) ?_
    refine al_opd rfl rfl rfl (ao_lss rfl rfl) ?_
    refine al_nilT ?_
    refine aw_cond rfl (fun h2_ => ?_) (fun h2_ => ?_)
    · try simp only [nrm] at h2_
      refine aw_skipT ?_
      refine aw_seq ?_
      refine aw_block ?_
      refine aw_seq ?_
      refine aw_region ?_
      refine al_opd rfl rfl rfl (ao_as (v := .int _ _) rfl) ?_
      refine al_nilT ?_
      refine aw_block ?_
      refine aw_loop (fun (gk : Nat) (fr : AFr) (G : AHeap) => ∃ get : Nat → Value, fr = ⟨41, get⟩ ∧ (∃ x : Nat, (x : Int) ≤ r.w ∧ gk = (r.w).toNat - x ∧ G = ((H.push (.cells (roomC r) 1)).push (.cells [.int .i8 0, .int .i8 0, .int .u16 0, .int .u16 0, .int .u16 0, .int .u16 0, .int .u16 0, .int .u16 0, .int .u16 0, .int .u16 0, .int .u16 0, .int .u16 0] 1)).push (.cells (roomC (putAll (gM r) (qM r) (zM r) (cellsTo ((zM r)).w.toNat y x))) 1) ∧ get 1 = .pointer (some ⟨H.next, 0, none⟩) ∧ get 2 = .pointer (some ⟨H.next + 1, 0, none⟩) ∧ get 4 = .pointer (some ⟨H.next + 2, 0, none⟩) ∧ get 5 = .int .i8 y ∧ get 6 = .int .i8 x)) ((r.w).toNat) ⟨_, rfl, ?_⟩ ?_
      · exact ⟨0, by omega, rfl, rfl, rfl, rfl, rfl, rfl, rfl⟩
      · rintro gk fr G ⟨get, rfl, x, hx, rfl, rfl, g1, g2, g4, g5, g6⟩
        have hdm : (putAll (gM r) (qM r) (zM r) (cellsTo ((zM r)).w.toNat y x)).w = r.w ∧ (putAll (gM r) (qM r) (zM r) (cellsTo ((zM r)).w.toNat y x)).h = r.h := putAll_dims _ _ _ _
        refine aw_slot (d := 1) (v := .pointer (some ⟨H.next, 0, none⟩)) (by first | assumption | rfl) ?_
        refine aw_slot (d := 2) (v := .pointer (some ⟨H.next + 1, 0, none⟩)) (by first | assumption | rfl) ?_
        refine aw_slot (d := 4) (v := .pointer (some ⟨H.next + 2, 0, none⟩)) (by first | assumption | rfl) ?_
        refine aw_slot (d := 5) (v := .int .i8 y) (by first | assumption | rfl) ?_
        refine aw_slot (d := 6) (v := .int .i8 x) (by first | assumption | rfl) ?_
        refine aw_seq ?_
        refine aw_seq ?_
        refine aw_region ?_
        refine al_opd rfl rfl rfl (ao_mv (v := .int _ _) rfl) ?_
        refine al_opd rfl rfl rfl (ao_fieldAddr fo_28_0 rfl) ?_
        refine al_opd rfl rfl rfl (ao_load (v := .int _ _) Tryd.isAgg24 (by rfl) (by exact HLp) (by rfl) (by exact RFp)) ?_
        refine al_opd rfl rfl rfl (ao_lss rfl rfl) ?_
        refine al_nilT ?_
        refine aw_cond rfl (fun h3_ => ?_) (fun h3_ => ?_)
        · try simp only [nrm] at h3_
          refine aw_skipT ?_
          refine aw_seq ?_
          refine aw_block ?_
          refine aw_draw (m := 12) mo (by kernel_rfl) rfl (fun _ _ _ h => h) ?_
          refine dw_opd rfl rfl rfl (ao_fieldAddr fo_28_0 rfl) ?_
          refine dw_opd rfl rfl rfl (ao_load (v := .int _ _) Tryd.isAgg24 (by rfl) (by exact HLp) (by rfl) (by exact RFp)) ?_
          first | refine dw_opd rfl rfl rfl ((ao_sub rfl rfl).val (nw_i8 BDp BDp)) ?_ | refine dw_opd rfl rfl rfl (ao_sub rfl rfl) ?_
          refine dw_opd rfl rfl rfl (ao_mv (v := .int _ _) rfl) ?_
          first | refine dw_opd rfl rfl rfl ((ao_sub rfl rfl).val (nw_i8 BDp BDp)) ?_ | refine dw_opd rfl rfl rfl (ao_sub rfl rfl) ?_
          refine dw_opd rfl rfl rfl (ao_mv (v := .int _ _) rfl) ?_
          refine dw_opd rfl rfl rfl (ao_build (A := #[.int .i8 (r.w - 1 - (x : Int)), .int .i8 (y : Int)]) Tryd.zeroValue48 (by rfl) (by first | rfl | kernel_rfl) (by rfl) (by first | rfl | kernel_rfl)) ?_
          refine dw_opd rfl rfl rfl (ao_mv (v := .int _ _) rfl) ?_
          refine dw_opd rfl rfl rfl (ao_mv (v := .int _ _) rfl) ?_
          refine dw_opd rfl rfl rfl (ao_build (A := #[.int .i8 (x : Int), .int .i8 (y : Int)]) Tryd.zeroValue48 (by rfl) (by first | rfl | kernel_rfl) (by rfl) (by first | rfl | kernel_rfl)) ?_
          refine dw_opd rfl rfl rfl (ao_calld (l01Free_c (r := r) (s := ⟨(x : Int), (y : Int)⟩) (b := freeB r ⟨(x : Int), (y : Int)⟩) (by exact HLp) hr hw ⟨⟨by show (-128 : Int) ≤ (x : Int); omega, by show (x : Int) ≤ (127 : Int); omega⟩, ⟨by show (-128 : Int) ≤ (y : Int); omega, by show (y : Int) ≤ (127 : Int); omega⟩⟩ (freeB_iff r _)) Tryd.call46 rfl rfl) ?_
          refine dw_opd rfl rfl rfl (ao_not rfl) ?_
          refine dw_end ?_
          refine al_opd rfl rfl rfl ((ao_calld (l01Wall_c (r := (putAll (gM r) (qM r) (zM r) (cellsTo ((zM r)).w.toNat y x))) (s := gM r ⟨(x : Int), (y : Int)⟩) (on := qM r ⟨(x : Int), (y : Int)⟩) (by exact HLp) (by show 0 ≤ r.w - 1 - (x : Int) ∧ r.w - 1 - (x : Int) < 10; omega) (by show 0 ≤ (y : Int) ∧ (y : Int) < 10; omega)) Tryd.call45 rfl rfl).to (SetR.eq (by exact SRp))) ?_
          refine al_nilB ?_
          refine thenA_n ?_
          refine aw_region ?_
          refine al_opd rfl rfl rfl (ao_mv (v := .int _ _) rfl) ?_
          first | refine al_opd rfl rfl rfl ((ao_add rfl rfl).val (nw_i8 BDp BDp)) ?_ | refine al_opd rfl rfl rfl (ao_add rfl rfl) ?_
          refine al_opd rfl rfl rfl (ao_as (v := .int _ _) rfl) ?_
          refine al_nilT ?_
          exact ⟨_, by omega, _, rfl, x + 1, by omega, rfl, by rw [cellsTo_succ, putAll_snoc]; first | done | rfl, rfl, rfl, rfl, rfl, by rfl⟩
        · try simp only [nrm] at h3_
          refine aw_exit ?_
          refine thenA_x ?_
          refine thenA_x ?_
          refine blockA_hit ?_
          refine blockA_n ?_
          refine thenA_n ?_
          refine aw_region ?_
          refine al_opd rfl rfl rfl (ao_mv (v := .int _ _) rfl) ?_
          first | refine al_opd rfl rfl rfl ((ao_add rfl rfl).val (nw_i8 BDp BDp)) ?_ | refine al_opd rfl rfl rfl (ao_add rfl rfl) ?_
          refine al_opd rfl rfl rfl (ao_as (v := .int _ _) rfl) ?_
          refine al_nilT ?_
          exact ⟨_, by omega, _, rfl, y + 1, by omega, rfl, by rw [cellsTo_row, show x = ((zM r)).w.toNat from (show x = (r.w).toNat by omega)], rfl, rfl, rfl, by rfl⟩
    · try simp only [nrm] at h2_
      refine aw_exit ?_
      refine thenA_x ?_
      refine thenA_x ?_
      refine blockA_hit ?_
      refine thenA_n ?_
      refine aw_seq ?_
      refine aw_region ?_
      refine al_opd rfl rfl rfl (ao_loada Tryd.isAgg28 Tryd.sizeOf28 rfl (by exact HLp) (by rfl) (by exact RFp)) ?_
      first | refine al_opd rfl rfl rfl ((ao_storeL Tryd.sizeOf28 (by rfl) (by rfl) (by exact HLp) (by exact RFp) (by exact RFp) (by exact RFp)).to (SetR.eq (by exact SRp))) ?_ | refine al_opd rfl rfl rfl ((ao_storeP (ds := [.int _ _, .int _ _, .int _ _, .int _ _, .int _ _, .int _ _, .int _ _, .int _ _, .int _ _, .int _ _, .int _ _, .int _ _]) Tryd.sizeOf28 (by rfl) (by rfl) (by exact HLp) (by exact RFp) (by exact RFp) (by exact LTp)).to (SetR.eq (by exact SRp))) ?_
      refine al_opd rfl rfl rfl (ao_as (v := .int _ _) rfl) ?_
      refine al_nilT ?_
      refine aw_ret ?_
      refine ends2 rfl (rv_cella Tryd.isAgg28 Tryd.sizeOf28 rfl (by exact HLp) (by rfl) (by exact RFp)) (rv_tmp (v := .int _ _) rfl) ?_
      have hyy : y = ((zM r)).h.toNat := (show y = (r.h).toNat by omega)
      subst hyy
      exact ⟨congrArg (fun c : List Value => Value.tuple #[.agg c.toArray, .int .i64 0]) (mirror_all hr), by exact SMp⟩

-- spec.TurnRoom
theorem specTurn1_c {r : Room} {H : AHeap} (hw : wfRoom r) (hr : okRoom r) : ACd Tryd.prog 24 [.agg (roomC r).toArray] H (.tuple #[.agg (roomC (turnR r)).toArray, .int .i64 0]) (H) := by
  have ⟨r1, r2, r3, r4, r5⟩ := hr
  refine ac_gc0 (fun β => VR.plainT β (by first | rfl | simp [plainT, plainV, plain1])) (ac_body Tryd.func24 rfl Tryd.ntmps24 rfl ?_)
  refine aw_seq ?_
  refine aw_region ?_
  refine al_opd rfl rfl rfl (ao_boxa (by rfl)) ?_
  refine al_opd rfl rfl rfl (ao_alloca (zv28) (by rfl)) ?_
  refine al_opd rfl rfl rfl (ao_as (v := .int _ _) rfl) ?_
  refine al_nilT ?_
  refine aw_seq ?_
  refine aw_seq ?_
  refine aw_region ?_
  refine al_opd rfl rfl rfl (ao_calld (l01Ok_c (r := r) (b := true) (by exact HLp) hw (yes hr)) Tryd.call44 rfl rfl) ?_
  refine al_opd rfl rfl rfl (ao_not rfl) ?_
  refine al_nilT ?_
  refine aw_cond rfl (fun h1_ => ?_) (fun h1_ => ?_)
  · try simp only [nrm] at h1_
    first | done | omega | (exfalso; revert h1_; simp; (first | done | omega))
  try simp only [nrm] at h1_
  refine aw_skipT ?_
  refine aw_seq ?_
  refine aw_region ?_
  refine al_opd rfl rfl rfl (ao_fieldAddr fo_28_1 rfl) ?_
  refine al_opd rfl rfl rfl (ao_load (v := .int _ _) Tryd.isAgg24 (by rfl) (by exact HLp) (by rfl) (by exact RFp)) ?_
  refine al_opd rfl rfl rfl (ao_fieldAddr fo_28_0 rfl) ?_
  refine al_opd rfl rfl rfl (ao_load (v := .int _ _) Tryd.isAgg24 (by rfl) (by exact HLp) (by rfl) (by exact RFp)) ?_
  refine al_opd rfl rfl rfl (ao_build (A := (roomC (zT r)).toArray) Tryd.zeroValue28 (by rfl) (by first | rfl | kernel_rfl) (by rfl) (by first | rfl | kernel_rfl)) ?_
  refine al_opd rfl rfl rfl (ao_alloca (zv28) (by rfl)) ?_
  first | refine al_opd rfl rfl rfl ((ao_storeL Tryd.sizeOf28 (by rfl) (by rfl) (by exact HLp) (by exact RFp) (by exact RFp) (by exact RFp)).to (SetR.eq (by exact SRp))) ?_ | refine al_opd rfl rfl rfl ((ao_storeP (ds := [.int _ _, .int _ _, .int _ _, .int _ _, .int _ _, .int _ _, .int _ _, .int _ _, .int _ _, .int _ _, .int _ _, .int _ _]) Tryd.sizeOf28 (by rfl) (by rfl) (by exact HLp) (by exact RFp) (by exact RFp) (by exact LTp)).to (SetR.eq (by exact SRp))) ?_
  refine al_nilT ?_
  refine aw_seq ?_
  refine aw_seq ?_
  refine aw_region ?_
  refine al_opd rfl rfl rfl (ao_as (v := .int _ _) rfl) ?_
  refine al_nilT ?_
  refine aw_block ?_
  refine aw_loop (fun (gk : Nat) (fr : AFr) (G : AHeap) => ∃ get : Nat → Value, fr = ⟨41, get⟩ ∧ (∃ y : Nat, (y : Int) ≤ r.w ∧ gk = (r.w).toNat - y ∧ G = ((H.push (.cells (roomC r) 1)).push (.cells [.int .i8 0, .int .i8 0, .int .u16 0, .int .u16 0, .int .u16 0, .int .u16 0, .int .u16 0, .int .u16 0, .int .u16 0, .int .u16 0, .int .u16 0, .int .u16 0] 1)).push (.cells (roomC (putAll id (qT r) (zT r) (cellsTo ((zT r)).w.toNat y 0))) 1) ∧ get 1 = .pointer (some ⟨H.next, 0, none⟩) ∧ get 2 = .pointer (some ⟨H.next + 1, 0, none⟩) ∧ get 4 = .pointer (some ⟨H.next + 2, 0, none⟩) ∧ get 5 = .int .i8 y)) ((r.w).toNat) ⟨_, rfl, ?_⟩ ?_
  · exact ⟨0, by omega, rfl, rfl, rfl, rfl, rfl, rfl⟩
  · rintro gk fr G ⟨get, rfl, y, hy, rfl, rfl, g1, g2, g4, g5⟩
    have hdm : (putAll id (qT r) (zT r) (cellsTo ((zT r)).w.toNat y 0)).w = r.h ∧ (putAll id (qT r) (zT r) (cellsTo ((zT r)).w.toNat y 0)).h = r.w := putAll_dims _ _ _ _
    refine aw_slot (d := 1) (v := .pointer (some ⟨H.next, 0, none⟩)) (by first | assumption | rfl) ?_
    refine aw_slot (d := 2) (v := .pointer (some ⟨H.next + 1, 0, none⟩)) (by first | assumption | rfl) ?_
    refine aw_slot (d := 4) (v := .pointer (some ⟨H.next + 2, 0, none⟩)) (by first | assumption | rfl) ?_
    refine aw_slot (d := 5) (v := .int .i8 y) (by first | assumption | rfl) ?_
    refine aw_seq ?_
    refine aw_seq ?_
    refine aw_region ?_
    refine al_opd rfl rfl rfl (ao_mv (v := .int _ _) rfl) ?_
    refine al_opd rfl rfl rfl (ao_fieldAddr fo_28_1 rfl) ?_
    refine al_opd rfl rfl rfl (ao_load (v := .int _ _) Tryd.isAgg24 (by rfl) (by exact HLp) (by rfl) (by exact RFp)) ?_
    refine al_opd rfl rfl rfl (ao_lss rfl rfl) ?_
    refine al_nilT ?_
    refine aw_cond rfl (fun h2_ => ?_) (fun h2_ => ?_)
    · try simp only [nrm] at h2_
      refine aw_skipT ?_
      refine aw_seq ?_
      refine aw_block ?_
      refine aw_seq ?_
      refine aw_region ?_
      refine al_opd rfl rfl rfl (ao_as (v := .int _ _) rfl) ?_
      refine al_nilT ?_
      refine aw_block ?_
      refine aw_loop (fun (gk : Nat) (fr : AFr) (G : AHeap) => ∃ get : Nat → Value, fr = ⟨41, get⟩ ∧ (∃ x : Nat, (x : Int) ≤ r.h ∧ gk = (r.h).toNat - x ∧ G = ((H.push (.cells (roomC r) 1)).push (.cells [.int .i8 0, .int .i8 0, .int .u16 0, .int .u16 0, .int .u16 0, .int .u16 0, .int .u16 0, .int .u16 0, .int .u16 0, .int .u16 0, .int .u16 0, .int .u16 0] 1)).push (.cells (roomC (putAll id (qT r) (zT r) (cellsTo ((zT r)).w.toNat y x))) 1) ∧ get 1 = .pointer (some ⟨H.next, 0, none⟩) ∧ get 2 = .pointer (some ⟨H.next + 1, 0, none⟩) ∧ get 4 = .pointer (some ⟨H.next + 2, 0, none⟩) ∧ get 5 = .int .i8 y ∧ get 6 = .int .i8 x)) ((r.h).toNat) ⟨_, rfl, ?_⟩ ?_
      · exact ⟨0, by omega, rfl, rfl, rfl, rfl, rfl, rfl, rfl⟩
      · rintro gk fr G ⟨get, rfl, x, hx, rfl, rfl, g1, g2, g4, g5, g6⟩
        have hdm : (putAll id (qT r) (zT r) (cellsTo ((zT r)).w.toNat y x)).w = r.h ∧ (putAll id (qT r) (zT r) (cellsTo ((zT r)).w.toNat y x)).h = r.w := putAll_dims _ _ _ _
        refine aw_slot (d := 1) (v := .pointer (some ⟨H.next, 0, none⟩)) (by first | assumption | rfl) ?_
        refine aw_slot (d := 2) (v := .pointer (some ⟨H.next + 1, 0, none⟩)) (by first | assumption | rfl) ?_
        refine aw_slot (d := 4) (v := .pointer (some ⟨H.next + 2, 0, none⟩)) (by first | assumption | rfl) ?_
        refine aw_slot (d := 5) (v := .int .i8 y) (by first | assumption | rfl) ?_
        refine aw_slot (d := 6) (v := .int .i8 x) (by first | assumption | rfl) ?_
        refine aw_seq ?_
        refine aw_seq ?_
        refine aw_region ?_
        refine al_opd rfl rfl rfl (ao_mv (v := .int _ _) rfl) ?_
        refine al_opd rfl rfl rfl (ao_fieldAddr fo_28_0 rfl) ?_
        refine al_opd rfl rfl rfl (ao_load (v := .int _ _) Tryd.isAgg24 (by rfl) (by exact HLp) (by rfl) (by exact RFp)) ?_
        refine al_opd rfl rfl rfl (ao_lss rfl rfl) ?_
        refine al_nilT ?_
        refine aw_cond rfl (fun h3_ => ?_) (fun h3_ => ?_)
        · try simp only [nrm] at h3_
          refine aw_skipT ?_
          refine aw_seq ?_
          refine aw_block ?_
          refine aw_region ?_
          refine al_opd rfl rfl rfl (ao_mv (v := .int _ _) rfl) ?_
          refine al_opd rfl rfl rfl (ao_mv (v := .int _ _) rfl) ?_
          refine al_opd rfl rfl rfl (ao_build (A := #[.int .i8 (x : Int), .int .i8 (y : Int)]) Tryd.zeroValue48 (by rfl) (by first | rfl | kernel_rfl) (by rfl) (by first | rfl | kernel_rfl)) ?_
          refine al_opd rfl rfl rfl (ao_mv (v := .int _ _) rfl) ?_
          refine al_opd rfl rfl rfl (ao_fieldAddr fo_28_1 rfl) ?_
          refine al_opd rfl rfl rfl (ao_load (v := .int _ _) Tryd.isAgg24 (by rfl) (by exact HLp) (by rfl) (by exact RFp)) ?_
          first | refine al_opd rfl rfl rfl ((ao_sub rfl rfl).val (nw_i8 BDp BDp)) ?_ | refine al_opd rfl rfl rfl (ao_sub rfl rfl) ?_
          refine al_opd rfl rfl rfl (ao_mv (v := .int _ _) rfl) ?_
          first | refine al_opd rfl rfl rfl ((ao_sub rfl rfl).val (nw_i8 BDp BDp)) ?_ | refine al_opd rfl rfl rfl (ao_sub rfl rfl) ?_
          refine al_opd rfl rfl rfl (ao_build (A := #[.int .i8 (y : Int), .int .i8 (r.h - 1 - (x : Int))]) Tryd.zeroValue48 (by rfl) (by first | rfl | kernel_rfl) (by rfl) (by first | rfl | kernel_rfl)) ?_
          refine al_opd rfl rfl rfl (ao_calld (l01Free_c (r := r) (s := ⟨(y : Int), r.h - 1 - (x : Int)⟩) (b := freeB r ⟨(y : Int), r.h - 1 - (x : Int)⟩) (by exact HLp) hr hw ⟨⟨by show (-128 : Int) ≤ (y : Int); omega, by show (y : Int) ≤ (127 : Int); omega⟩, ⟨by show (-128 : Int) ≤ r.h - 1 - (x : Int); omega, by show r.h - 1 - (x : Int) ≤ (127 : Int); omega⟩⟩ (freeB_iff r _)) Tryd.call46 rfl rfl) ?_
          refine al_opd rfl rfl rfl (ao_not rfl) ?_
          refine al_opd rfl rfl rfl ((ao_calld (l01Wall_c (r := (putAll id (qT r) (zT r) (cellsTo ((zT r)).w.toNat y x))) (s := ⟨(x : Int), (y : Int)⟩) (on := qT r ⟨(x : Int), (y : Int)⟩) (by exact HLp) (by show 0 ≤ (x : Int) ∧ (x : Int) < 10; omega) (by show 0 ≤ (y : Int) ∧ (y : Int) < 10; omega)) Tryd.call45 rfl rfl).to (SetR.eq (by exact SRp))) ?_
          refine al_nilB ?_
          refine thenA_n ?_
          refine aw_region ?_
          refine al_opd rfl rfl rfl (ao_mv (v := .int _ _) rfl) ?_
          first | refine al_opd rfl rfl rfl ((ao_add rfl rfl).val (nw_i8 BDp BDp)) ?_ | refine al_opd rfl rfl rfl (ao_add rfl rfl) ?_
          refine al_opd rfl rfl rfl (ao_as (v := .int _ _) rfl) ?_
          refine al_nilT ?_
          exact ⟨_, by omega, _, rfl, x + 1, by omega, rfl, by rw [cellsTo_succ, putAll_snoc]; first | done | rfl, rfl, rfl, rfl, rfl, by rfl⟩
        · try simp only [nrm] at h3_
          refine aw_exit ?_
          refine thenA_x ?_
          refine thenA_x ?_
          refine blockA_hit ?_
          refine blockA_n ?_
          refine thenA_n ?_
          refine aw_region ?_
          refine al_opd rfl rfl rfl (ao_mv (v := .int _ _) rfl) ?_
          first | refine al_opd rfl rfl rfl ((ao_add rfl rfl).val (nw_i8 BDp BDp)) ?_ | refine al_opd rfl rfl rfl (ao_add rfl rfl) ?_
          refine al_opd rfl rfl rfl (ao_as (v := .int _ _) rfl) ?_
          refine al_nilT ?_
          exact ⟨_, by omega, _, rfl, y + 1, by omega, rfl, by rw [cellsTo_row, show x = ((zT r)).w.toNat from (show x = (r.h).toNat by omega)], rfl, rfl, rfl, by rfl⟩
    · try simp only [nrm] at h2_
      refine aw_exit ?_
      refine thenA_x ?_
      refine thenA_x ?_
      refine blockA_hit ?_
      refine thenA_n ?_
      refine aw_seq ?_
      refine aw_region ?_
      refine al_opd rfl rfl rfl (ao_loada Tryd.isAgg28 Tryd.sizeOf28 rfl (by exact HLp) (by rfl) (by exact RFp)) ?_
      first | refine al_opd rfl rfl rfl ((ao_storeL Tryd.sizeOf28 (by rfl) (by rfl) (by exact HLp) (by exact RFp) (by exact RFp) (by exact RFp)).to (SetR.eq (by exact SRp))) ?_ | refine al_opd rfl rfl rfl ((ao_storeP (ds := [.int _ _, .int _ _, .int _ _, .int _ _, .int _ _, .int _ _, .int _ _, .int _ _, .int _ _, .int _ _, .int _ _, .int _ _]) Tryd.sizeOf28 (by rfl) (by rfl) (by exact HLp) (by exact RFp) (by exact RFp) (by exact LTp)).to (SetR.eq (by exact SRp))) ?_
      refine al_opd rfl rfl rfl (ao_as (v := .int _ _) rfl) ?_
      refine al_nilT ?_
      refine aw_ret ?_
      refine ends2 rfl (rv_cella Tryd.isAgg28 Tryd.sizeOf28 rfl (by exact HLp) (by rfl) (by exact RFp)) (rv_tmp (v := .int _ _) rfl) ?_
      have hyy : y = ((zT r)).h.toNat := (show y = (r.w).toNat by omega)
      subst hyy
      exact ⟨congrArg (fun c : List Value => Value.tuple #[.agg c.toArray, .int .i64 0]) (turn_all hr), by exact SMp⟩

-- impl.MirrorRoom$1
theorem mirror1_c {r : Room} {s : Spot} {qb : Nat} {H : AHeap} (hq : H.blk qb = some (.cells (roomC r) 1)) (hw : wfRoom r) (hs : wfSpot s) : ACd Tryd.prog 43 [.agg #[.int .i8 s.x, .int .i8 s.y], .pointer (some ⟨qb, 0, none⟩)] H (.bool (qM r s)) (H) := by
  refine ac_gc0 (fun β => VR.plainT β (by first | rfl | simp [plainT, plainV, plain1])) (ac_body Tryd.func43 rfl Tryd.ntmps43 rfl ?_)
  refine aw_seq ?_
  refine aw_region ?_
  refine al_opd rfl rfl rfl (ao_boxa (by rfl)) ?_
  refine al_opd rfl rfl rfl (ao_as (v := .bool _) rfl) ?_
  refine al_nilT ?_
  refine aw_seq ?_
  refine aw_region ?_
  refine al_opd rfl rfl rfl (ao_loada Tryd.isAgg28 Tryd.sizeOf28 rfl (by exact HLp) (by rfl) (by exact RFp)) ?_
  refine al_opd rfl rfl rfl (ao_loada Tryd.isAgg48 Tryd.sizeOf48 rfl (by exact HLp) (by rfl) (by exact RFp)) ?_
  refine al_opd rfl rfl rfl (ao_calld (isFree_c (r := r) (s := s) (b := freeB r s) hw hs (freeB_iff r s)) Tryd.call41 rfl rfl) ?_
  refine al_opd rfl rfl rfl (ao_not rfl) ?_
  refine al_opd rfl rfl rfl (ao_as (v := .bool _) rfl) ?_
  refine al_nilT ?_
  refine aw_ret ?_
  refine ends1 rfl (rv_tmp (v := .bool _) rfl) ?_
  exact ⟨by first | rfl | (simp [*]; (first | done | fail)), by exact SMp⟩

-- impl.TurnRoom$1
theorem turn1_c {r : Room} {s : Spot} {qb : Nat} {H : AHeap} (hq : H.blk qb = some (.cells (roomC r) 1)) (hw : wfRoom r) (hs : (0 ≤ s.x ∧ s.x ≤ 100) ∧ 0 ≤ s.y ∧ s.y ≤ 100) (hh : 0 ≤ r.h ∧ r.h ≤ 10) : ACd Tryd.prog 58 [.agg #[.int .i8 s.x, .int .i8 s.y], .pointer (some ⟨qb, 0, none⟩)] H (.bool (qT r s)) (H) := by
  refine ac_gc0 (fun β => VR.plainT β (by first | rfl | simp [plainT, plainV, plain1])) (ac_body Tryd.func58 rfl Tryd.ntmps58 rfl ?_)
  refine aw_seq ?_
  refine aw_region ?_
  refine al_opd rfl rfl rfl (ao_boxa (by rfl)) ?_
  refine al_opd rfl rfl rfl (ao_as (v := .bool _) rfl) ?_
  refine al_nilT ?_
  refine aw_seq ?_
  refine aw_region ?_
  refine al_opd rfl rfl rfl (ao_loada Tryd.isAgg28 Tryd.sizeOf28 rfl (by exact HLp) (by rfl) (by exact RFp)) ?_
  refine al_opd rfl rfl rfl (ao_fieldAddr fo_48_1 rfl) ?_
  refine al_opd rfl rfl rfl (ao_load (v := .int _ _) Tryd.isAgg24 (by rfl) (by exact HLp) (by rfl) (by exact RFp)) ?_
  refine al_opd rfl rfl rfl (ao_fieldAddr fo_28_1 rfl) ?_
  refine al_opd rfl rfl rfl (ao_load (v := .int _ _) Tryd.isAgg24 (by rfl) (by exact HLp) (by rfl) (by exact RFp)) ?_
  first | refine al_opd rfl rfl rfl ((ao_sub rfl rfl).val (nw_i8 BDp BDp)) ?_ | refine al_opd rfl rfl rfl (ao_sub rfl rfl) ?_
  refine al_opd rfl rfl rfl (ao_fieldAddr fo_48_0 rfl) ?_
  refine al_opd rfl rfl rfl (ao_load (v := .int _ _) Tryd.isAgg24 (by rfl) (by exact HLp) (by rfl) (by exact RFp)) ?_
  first | refine al_opd rfl rfl rfl ((ao_sub rfl rfl).val (nw_i8 BDp BDp)) ?_ | refine al_opd rfl rfl rfl (ao_sub rfl rfl) ?_
  refine al_opd rfl rfl rfl (ao_build (A := #[.int .i8 s.y, .int .i8 (r.h - 1 - s.x)]) Tryd.zeroValue48 (by rfl) (by first | rfl | kernel_rfl) (by rfl) (by first | rfl | kernel_rfl)) ?_
  refine al_opd rfl rfl rfl (ao_calld (isFree_c (r := r) (s := ⟨s.y, r.h - 1 - s.x⟩) (b := freeB r ⟨s.y, r.h - 1 - s.x⟩) hw ⟨⟨by show (-128 : Int) ≤ s.y; omega, by show s.y ≤ (127 : Int); omega⟩, ⟨by show (-128 : Int) ≤ r.h - 1 - s.x; omega, by show r.h - 1 - s.x ≤ (127 : Int); omega⟩⟩ (freeB_iff r _)) Tryd.call41 rfl rfl) ?_
  refine al_opd rfl rfl rfl (ao_not rfl) ?_
  refine al_opd rfl rfl rfl (ao_as (v := .bool _) rfl) ?_
  refine al_nilT ?_
  refine aw_ret ?_
  refine ends1 rfl (rv_tmp (v := .bool _) rfl) ?_
  exact ⟨by first | rfl | (simp [*]; (first | done | fail)), by exact SMp⟩

-- impl.MirrorRoom
theorem implMirror1_c {r : Room} {H : AHeap} (hw : wfRoom r) (hr : okRoom r) : ACd Tryd.prog 8 [.agg (roomC r).toArray] H (.tuple #[.agg (roomC (mirrorR r)).toArray, .int .i64 0]) (H) := by
  have ⟨r1, r2, r3, r4, r5⟩ := hr
  have hll := filter_len r (qM r) (by omega) (by omega)
  refine ac_gc0 (fun β => VR.plainT β (by first | rfl | simp [plainT, plainV, plain1])) (ac_body Tryd.func8 rfl Tryd.ntmps8 rfl ?_)
  refine aw_seq ?_
  refine aw_region ?_
  refine al_opd rfl rfl rfl (ao_boxa (by rfl)) ?_
  refine al_opd rfl rfl rfl (ao_alloca (zv28) (by rfl)) ?_
  refine al_opd rfl rfl rfl (ao_as (v := .int _ _) rfl) ?_
  refine al_nilT ?_
  refine aw_seq ?_
  refine aw_seq ?_
  refine aw_region ?_
  first | refine al_opd rfl rfl rfl (ao_loada Tryd.isAgg28 Tryd.sizeOf28 rfl (by exact HLp) (by rfl) (by exact RFp)) ?_ | refine al_opd rfl rfl rfl (ao_loadsV (A := #[.int _ _, .int _ _, .int _ _, .int _ _, .int _ _, .int _ _, .int _ _, .int _ _, .int _ _, .int _ _, .int _ _, .int _ _]) Tryd.isAgg28 Tryd.sizeOf28 hh rfl hx rfl (by decide)) ?_
  refine al_opd rfl rfl rfl (ao_calld (implValid_c (r := r) (b := true) hw (yes hr)) Tryd.call17 rfl rfl) ?_
  refine al_opd rfl rfl rfl (ao_not rfl) ?_
  refine al_nilT ?_
  refine aw_cond rfl (fun h1_ => ?_) (fun h1_ => ?_)
  · try simp only [nrm] at h1_
    first | done | omega | (exfalso; revert h1_; simp; (first | done | omega))
  try simp only [nrm] at h1_
  refine aw_skipT ?_
  refine aw_seq ?_
  refine aw_region ?_
  refine al_opd rfl rfl rfl (ao_fieldAddr fo_28_0 rfl) ?_
  first | refine al_opd rfl rfl rfl (ao_load (v := .int _ _) Tryd.isAgg24 (by rfl) (by exact HLp) (by rfl) (by exact RFp)) ?_ | refine al_opd rfl rfl rfl (ao_loadV (j := 0) (u := .int _ _) Tryd.isAgg24 hh rfl rfl hx rfl) ?_ | refine al_opd rfl rfl rfl (ao_loadV (j := 1) (u := .int _ _) Tryd.isAgg24 hh rfl rfl hx rfl) ?_
  refine al_opd rfl rfl rfl (ao_fieldAddr fo_28_1 rfl) ?_
  first | refine al_opd rfl rfl rfl (ao_load (v := .int _ _) Tryd.isAgg24 (by rfl) (by exact HLp) (by rfl) (by exact RFp)) ?_ | refine al_opd rfl rfl rfl (ao_loadV (j := 0) (u := .int _ _) Tryd.isAgg24 hh rfl rfl hx rfl) ?_ | refine al_opd rfl rfl rfl (ao_loadV (j := 1) (u := .int _ _) Tryd.isAgg24 hh rfl rfl hx rfl) ?_
  refine al_opd rfl rfl rfl (ao_build (A := (roomC (zM r)).toArray) Tryd.zeroValue28 (by rfl) (by first | rfl | kernel_rfl) (by rfl) (by first | rfl | kernel_rfl)) ?_
  refine al_opd rfl rfl rfl (ao_alloca (zv28) (by rfl)) ?_
  first | refine al_opd rfl rfl rfl ((ao_storeL Tryd.sizeOf28 (by rfl) (by rfl) (by exact HLp) (by exact RFp) (by exact RFp) (by exact RFp)).to (SetR.eq (by exact SRp))) ?_ | refine al_opd rfl rfl rfl ((ao_storeP (ds := [.int _ _, .int _ _, .int _ _, .int _ _, .int _ _, .int _ _, .int _ _, .int _ _, .int _ _, .int _ _, .int _ _, .int _ _]) Tryd.sizeOf28 (by rfl) (by rfl) (by exact HLp) (by exact RFp) (by exact RFp) (by exact LTp)).to (SetR.eq (by exact SRp))) ?_
  refine al_nilT ?_
  refine aw_seq ?_
  refine aw_seq ?_
  refine aw_region ?_
  first | refine al_opd rfl rfl rfl (ao_loada Tryd.isAgg28 Tryd.sizeOf28 rfl (by exact HLp) (by rfl) (by exact RFp)) ?_ | refine al_opd rfl rfl rfl (ao_loadsV (A := #[.int _ _, .int _ _, .int _ _, .int _ _, .int _ _, .int _ _, .int _ _, .int _ _, .int _ _, .int _ _, .int _ _, .int _ _]) Tryd.isAgg28 Tryd.sizeOf28 hh rfl hx rfl (by decide)) ?_
  refine al_opd rfl rfl rfl (ao_makeFunc rfl rfl) ?_
  refine al_opd rfl rfl rfl (ao_calld (cells_c (fnum := 43) (fs := #[]) (cs := #[.pointer (some ⟨H.next, 0, none⟩)]) (r := r) (p := (qM r)) Tryd.call43 (fun G x y hs hx hy => mirror1_c (r := r) (s := ⟨(x : Int), (y : Int)⟩) ((hs _ (by exact LEp)).trans (by exact HLp)) hw ⟨⟨by show (-128 : Int) ≤ (x : Int); omega, by show (x : Int) ≤ (127 : Int); omega⟩, ⟨by show (-128 : Int) ≤ (y : Int); omega, by show (y : Int) ≤ (127 : Int); omega⟩⟩) (by omega)) Tryd.call42 rfl rfl) ?_
  first | refine al_opd rfl rfl rfl (ao_lenS Tryd.underlying37 (by rfl)) ?_ | refine al_opd rfl rfl rfl (ao_lenN Tryd.underlying37 (by rfl)) ?_ | refine al_opd rfl rfl rfl (ao_lenV Tryd.underlying37 rfl hh) ?_
  refine al_opd rfl rfl rfl (ao_mv (v := .int _ _) rfl) ?_
  refine al_nilT ?_
  refine aw_block ?_
  refine aw_loop (fun (gk : Nat) (fr : AFr) (G : AHeap) => ∃ get : Nat → Value, fr = ⟨37, get⟩ ∧ (∃ i : Nat, i ≤ ((allCells r).filter (qM r)).length ∧ gk = ((allCells r).filter (qM r)).length - i ∧ Same H.next H G ∧ H.next + 4 ≤ G.next ∧ G.blk H.next = some (.cells (roomC r) 1) ∧ G.blk (H.next + 1) = some (.cells [.int .i8 0, .int .i8 0, .int .u16 0, .int .u16 0, .int .u16 0, .int .u16 0, .int .u16 0, .int .u16 0, .int .u16 0, .int .u16 0, .int .u16 0, .int .u16 0] 1) ∧ G.blk (H.next + 2) = some (.cells (roomC (putWalls (gM r) (zM r) (((allCells r).filter (qM r)).take i))) 1) ∧ G.blk (H.next + 3) = some (.cells (fl spot ((allCells r).filter (qM r))) 2) ∧ get 1 = .pointer (some ⟨H.next, 0, none⟩) ∧ get 2 = .pointer (some ⟨H.next + 1, 0, none⟩) ∧ get 4 = .pointer (some ⟨H.next + 2, 0, none⟩) ∧ get 18 = .slice (some ⟨H.next + 3, 0, none⟩) ((allCells r).filter (qM r)).length (((allCells r).filter (qM r)).length + 1) ∧ get 19 = .int .i64 ((allCells r).filter (qM r)).length ∧ get 20 = .int .i64 i)) (((allCells r).filter (qM r)).length) ⟨_, rfl, ?_⟩ ?_
  · exact ⟨0, by omega, rfl, by exact SMp, by exact LEp, by exact HLp, by exact HLp, by exact HLp, by exact HLp, rfl, rfl, rfl, rfl, rfl, rfl⟩
  · rintro gk fr G ⟨get, rfl, i, hi, rfl, hG, hnx, hb0, hb1, hb2, hb3, g1, g2, g4, g18, g19, g20⟩
    have hh : Sl G spot 2 (.slice (some ⟨H.next + 3, 0, none⟩) ((allCells r).filter (qM r)).length (((allCells r).filter (qM r)).length + 1)) ((allCells r).filter (qM r)) := Sl.full spot_len hb3 rfl rfl rfl
    refine aw_slot (d := 1) (v := .pointer (some ⟨H.next, 0, none⟩)) (by first | assumption | rfl) ?_
    refine aw_slot (d := 2) (v := .pointer (some ⟨H.next + 1, 0, none⟩)) (by first | assumption | rfl) ?_
    refine aw_slot (d := 4) (v := .pointer (some ⟨H.next + 2, 0, none⟩)) (by first | assumption | rfl) ?_
    refine aw_slot (d := 18) (v := .slice (some ⟨H.next + 3, 0, none⟩) ((allCells r).filter (qM r)).length (((allCells r).filter (qM r)).length + 1)) (by first | assumption | rfl) ?_
    refine aw_slot (d := 19) (v := .int .i64 ((allCells r).filter (qM r)).length) (by first | assumption | rfl) ?_
    refine aw_slot (d := 20) (v := .int .i64 i) (by first | assumption | rfl) ?_
    refine aw_seq ?_
    refine aw_region ?_
    refine al_opd rfl rfl rfl (ao_lss rfl rfl) ?_
    refine al_nilT ?_
    refine aw_seq ?_
    refine aw_cond rfl (fun h2_ => ?_) (fun h2_ => ?_)
    · try simp only [nrm] at h2_
      obtain ⟨s, hx⟩ := get_lt (show i < ((allCells r).filter (qM r)).length by omega)
      have ⟨b1, b2, b3, b4⟩ := filter_at hx (show 0 ≤ (r).w by omega) (show 0 ≤ (r).h by omega)
      refine aw_skipT ?_
      refine aw_seq ?_
      refine aw_block ?_
      refine aw_seq ?_
      refine aw_region ?_
      first | refine al_opd rfl rfl rfl (ao_indexAddrS Tryd.underlying37 Tryd.sizeOf48 rfl rfl (by exact IXp) (by exact IXp)) ?_ | refine al_opd rfl rfl rfl (ao_indexV Tryd.underlying37 Tryd.sizeOf48 rfl rfl hh (by exact IXp) (by exact IXp)) ?_
      first | refine al_opd rfl rfl rfl (ao_loada Tryd.isAgg48 Tryd.sizeOf48 rfl (by exact HLp) (by rfl) (by exact RFp)) ?_ | refine al_opd rfl rfl rfl (ao_loadsV (A := #[.int _ _, .int _ _]) Tryd.isAgg48 Tryd.sizeOf48 hh rfl hx rfl (by decide)) ?_
      refine al_opd rfl rfl rfl (ao_alloca (zv48) (by rfl)) ?_
      first | refine al_opd rfl rfl rfl ((ao_storeL Tryd.sizeOf48 (by rfl) (by rfl) (by exact HLp) (by exact RFp) (by exact RFp) (by exact RFp)).to (SetR.eq (by exact SRp))) ?_ | refine al_opd rfl rfl rfl ((ao_storeP (ds := [.int _ _, .int _ _]) Tryd.sizeOf48 (by rfl) (by rfl) (by exact HLp) (by exact RFp) (by exact RFp) (by exact LTp)).to (SetR.eq (by exact SRp))) ?_
      refine al_nilT ?_
      refine aw_region ?_
      first | refine al_opd rfl rfl rfl (ao_loada Tryd.isAgg28 Tryd.sizeOf28 rfl (by exact HLp) (by rfl) (by exact RFp)) ?_ | refine al_opd rfl rfl rfl (ao_loadsV (A := #[.int _ _, .int _ _, .int _ _, .int _ _, .int _ _, .int _ _, .int _ _, .int _ _, .int _ _, .int _ _, .int _ _, .int _ _]) Tryd.isAgg28 Tryd.sizeOf28 hh rfl hx rfl (by decide)) ?_
      refine al_opd rfl rfl rfl (ao_fieldAddr fo_28_0 rfl) ?_
      first | refine al_opd rfl rfl rfl (ao_load (v := .int _ _) Tryd.isAgg24 (by rfl) (by exact HLp) (by rfl) (by exact RFp)) ?_ | refine al_opd rfl rfl rfl (ao_loadV (j := 0) (u := .int _ _) Tryd.isAgg24 hh rfl rfl hx rfl) ?_ | refine al_opd rfl rfl rfl (ao_loadV (j := 1) (u := .int _ _) Tryd.isAgg24 hh rfl rfl hx rfl) ?_
      first | refine al_opd rfl rfl rfl ((ao_sub rfl rfl).val (nw_i8 BDp BDp)) ?_ | refine al_opd rfl rfl rfl (ao_sub rfl rfl) ?_
      refine al_opd rfl rfl rfl (ao_fieldAddr fo_48_0 rfl) ?_
      first | refine al_opd rfl rfl rfl (ao_load (v := .int _ _) Tryd.isAgg24 (by rfl) (by exact HLp) (by rfl) (by exact RFp)) ?_ | refine al_opd rfl rfl rfl (ao_loadV (j := 0) (u := .int _ _) Tryd.isAgg24 hh rfl rfl hx rfl) ?_ | refine al_opd rfl rfl rfl (ao_loadV (j := 1) (u := .int _ _) Tryd.isAgg24 hh rfl rfl hx rfl) ?_
      first | refine al_opd rfl rfl rfl ((ao_sub rfl rfl).val (nw_i8 BDp BDp)) ?_ | refine al_opd rfl rfl rfl (ao_sub rfl rfl) ?_
      refine al_opd rfl rfl rfl (ao_fieldAddr fo_48_1 rfl) ?_
      first | refine al_opd rfl rfl rfl (ao_load (v := .int _ _) Tryd.isAgg24 (by rfl) (by exact HLp) (by rfl) (by exact RFp)) ?_ | refine al_opd rfl rfl rfl (ao_loadV (j := 0) (u := .int _ _) Tryd.isAgg24 hh rfl rfl hx rfl) ?_ | refine al_opd rfl rfl rfl (ao_loadV (j := 1) (u := .int _ _) Tryd.isAgg24 hh rfl rfl hx rfl) ?_
      refine al_opd rfl rfl rfl (ao_build (A := #[.int .i8 (r.w - 1 - s.x), .int .i8 s.y]) Tryd.zeroValue48 (by rfl) (by first | rfl | kernel_rfl) (by rfl) (by first | rfl | kernel_rfl)) ?_
      refine al_opd rfl rfl rfl (ao_calld (withR_c (r := putWalls (gM r) (zM r) (((allCells r).filter (qM r)).take i)) (on := true) (s := gM r s) (by show 0 ≤ r.w - 1 - s.x ∧ r.w - 1 - s.x < 10; omega) (by show 0 ≤ s.y ∧ s.y < 10; omega)) Tryd.call38 rfl rfl) ?_
      first | refine al_opd rfl rfl rfl ((ao_storeL Tryd.sizeOf28 (by rfl) (by rfl) (by exact HLp) (by exact RFp) (by exact RFp) (by exact RFp)).to (SetR.eq (by exact SRp))) ?_ | refine al_opd rfl rfl rfl ((ao_storeP (ds := [.int _ _, .int _ _, .int _ _, .int _ _, .int _ _, .int _ _, .int _ _, .int _ _, .int _ _, .int _ _, .int _ _, .int _ _]) Tryd.sizeOf28 (by rfl) (by rfl) (by exact HLp) (by exact RFp) (by exact RFp) (by exact LTp)).to (SetR.eq (by exact SRp))) ?_
      refine al_nilB ?_
      refine thenA_n ?_
      refine aw_region ?_
      first | refine al_opd rfl rfl rfl ((ao_add rfl rfl).val (nw_i64 BDp BDp)) ?_ | refine al_opd rfl rfl rfl (ao_add rfl rfl) ?_
      refine al_opd rfl rfl rfl (ao_mv (v := .int _ _) rfl) ?_
      refine al_nilT ?_
      exact ⟨_, by omega, _, rfl, i + 1, by omega, rfl, by exact SMp, by exact LEp, by exact HLp, by exact HLp, by rw [← putWalls_take hx]; exact (by exact HLp), by exact HLp, rfl, rfl, rfl, rfl, rfl, by rfl⟩
    · try simp only [nrm] at h2_
      refine aw_exit ?_
      refine thenA_x ?_
      refine thenA_x ?_
      refine blockA_hit ?_
      refine thenA_n ?_
      refine aw_seq ?_
      refine aw_region ?_
      first | refine al_opd rfl rfl rfl (ao_loada Tryd.isAgg28 Tryd.sizeOf28 rfl (by exact HLp) (by rfl) (by exact RFp)) ?_ | refine al_opd rfl rfl rfl (ao_loadsV (A := #[.int _ _, .int _ _, .int _ _, .int _ _, .int _ _, .int _ _, .int _ _, .int _ _, .int _ _, .int _ _, .int _ _, .int _ _]) Tryd.isAgg28 Tryd.sizeOf28 hh rfl hx rfl (by decide)) ?_
      first | refine al_opd rfl rfl rfl ((ao_storeL Tryd.sizeOf28 (by rfl) (by rfl) (by exact HLp) (by exact RFp) (by exact RFp) (by exact RFp)).to (SetR.eq (by exact SRp))) ?_ | refine al_opd rfl rfl rfl ((ao_storeP (ds := [.int _ _, .int _ _, .int _ _, .int _ _, .int _ _, .int _ _, .int _ _, .int _ _, .int _ _, .int _ _, .int _ _, .int _ _]) Tryd.sizeOf28 (by rfl) (by rfl) (by exact HLp) (by exact RFp) (by exact RFp) (by exact LTp)).to (SetR.eq (by exact SRp))) ?_
      refine al_opd rfl rfl rfl (ao_as (v := .int _ _) rfl) ?_
      refine al_nilT ?_
      refine aw_ret ?_
      refine ends2 rfl (rv_cella Tryd.isAgg28 Tryd.sizeOf28 rfl (by exact HLp) (by rfl) (by exact RFp)) (rv_tmp (v := .int _ _) rfl) ?_
      exact ⟨by rw [List.take_of_length_le (by omega)]; rfl, by exact SMp⟩

-- impl.TurnRoom
theorem implTurn1_c {r : Room} {H : AHeap} (hw : wfRoom r) (hr : okRoom r) : ACd Tryd.prog 23 [.agg (roomC r).toArray] H (.tuple #[.agg (roomC (turnR r)).toArray, .int .i64 0]) (H) := by
  have ⟨r1, r2, r3, r4, r5⟩ := hr
  have hll := filter_len (zT r) (qT r) (show r.h ≤ 10 by omega) (show r.w ≤ 10 by omega)
  refine ac_gc0 (fun β => VR.plainT β (by first | rfl | simp [plainT, plainV, plain1])) (ac_body Tryd.func23 rfl Tryd.ntmps23 rfl ?_)
  refine aw_seq ?_
  refine aw_region ?_
  refine al_opd rfl rfl rfl (ao_boxa (by rfl)) ?_
  refine al_opd rfl rfl rfl (ao_alloca (zv28) (by rfl)) ?_
  refine al_opd rfl rfl rfl (ao_as (v := .int _ _) rfl) ?_
  refine al_nilT ?_
  refine aw_seq ?_
  refine aw_seq ?_
  refine aw_region ?_
  first | refine al_opd rfl rfl rfl (ao_loada Tryd.isAgg28 Tryd.sizeOf28 rfl (by exact HLp) (by rfl) (by exact RFp)) ?_ | refine al_opd rfl rfl rfl (ao_loadsV (A := #[.int _ _, .int _ _, .int _ _, .int _ _, .int _ _, .int _ _, .int _ _, .int _ _, .int _ _, .int _ _, .int _ _, .int _ _]) Tryd.isAgg28 Tryd.sizeOf28 hh rfl hx rfl (by decide)) ?_
  refine al_opd rfl rfl rfl (ao_calld (implValid_c (r := r) (b := true) hw (yes hr)) Tryd.call17 rfl rfl) ?_
  refine al_opd rfl rfl rfl (ao_not rfl) ?_
  refine al_nilT ?_
  refine aw_cond rfl (fun h1_ => ?_) (fun h1_ => ?_)
  · try simp only [nrm] at h1_
    first | done | omega | (exfalso; revert h1_; simp; (first | done | omega))
  try simp only [nrm] at h1_
  refine aw_skipT ?_
  refine aw_seq ?_
  refine aw_region ?_
  refine al_opd rfl rfl rfl (ao_fieldAddr fo_28_1 rfl) ?_
  first | refine al_opd rfl rfl rfl (ao_load (v := .int _ _) Tryd.isAgg24 (by rfl) (by exact HLp) (by rfl) (by exact RFp)) ?_ | refine al_opd rfl rfl rfl (ao_loadV (j := 0) (u := .int _ _) Tryd.isAgg24 hh rfl rfl hx rfl) ?_ | refine al_opd rfl rfl rfl (ao_loadV (j := 1) (u := .int _ _) Tryd.isAgg24 hh rfl rfl hx rfl) ?_
  refine al_opd rfl rfl rfl (ao_fieldAddr fo_28_0 rfl) ?_
  first | refine al_opd rfl rfl rfl (ao_load (v := .int _ _) Tryd.isAgg24 (by rfl) (by exact HLp) (by rfl) (by exact RFp)) ?_ | refine al_opd rfl rfl rfl (ao_loadV (j := 0) (u := .int _ _) Tryd.isAgg24 hh rfl rfl hx rfl) ?_ | refine al_opd rfl rfl rfl (ao_loadV (j := 1) (u := .int _ _) Tryd.isAgg24 hh rfl rfl hx rfl) ?_
  refine al_opd rfl rfl rfl (ao_build (A := (roomC (zT r)).toArray) Tryd.zeroValue28 (by rfl) (by first | rfl | kernel_rfl) (by rfl) (by first | rfl | kernel_rfl)) ?_
  refine al_opd rfl rfl rfl (ao_alloca (zv28) (by rfl)) ?_
  first | refine al_opd rfl rfl rfl ((ao_storeL Tryd.sizeOf28 (by rfl) (by rfl) (by exact HLp) (by exact RFp) (by exact RFp) (by exact RFp)).to (SetR.eq (by exact SRp))) ?_ | refine al_opd rfl rfl rfl ((ao_storeP (ds := [.int _ _, .int _ _, .int _ _, .int _ _, .int _ _, .int _ _, .int _ _, .int _ _, .int _ _, .int _ _, .int _ _, .int _ _]) Tryd.sizeOf28 (by rfl) (by rfl) (by exact HLp) (by exact RFp) (by exact RFp) (by exact LTp)).to (SetR.eq (by exact SRp))) ?_
  refine al_nilT ?_
  refine aw_seq ?_
  refine aw_seq ?_
  refine aw_region ?_
  first | refine al_opd rfl rfl rfl (ao_loada Tryd.isAgg28 Tryd.sizeOf28 rfl (by exact HLp) (by rfl) (by exact RFp)) ?_ | refine al_opd rfl rfl rfl (ao_loadsV (A := #[.int _ _, .int _ _, .int _ _, .int _ _, .int _ _, .int _ _, .int _ _, .int _ _, .int _ _, .int _ _, .int _ _, .int _ _]) Tryd.isAgg28 Tryd.sizeOf28 hh rfl hx rfl (by decide)) ?_
  refine al_opd rfl rfl rfl (ao_makeFunc rfl rfl) ?_
  refine al_opd rfl rfl rfl (ao_calld (cells_c (fnum := 58) (fs := #[]) (cs := #[.pointer (some ⟨H.next, 0, none⟩)]) (r := (zT r)) (p := (qT r)) Tryd.call58 (fun G x y hs hx hy => turn1_c (r := r) (s := ⟨(x : Int), (y : Int)⟩) ((hs _ (by exact LEp)).trans (by exact HLp)) hw (by replace hx : (x : Int) < r.h := hx; replace hy : (y : Int) < r.w := hy; refine ⟨⟨?_, ?_⟩, ?_, ?_⟩ <;> simp only <;> omega) (by omega)) (show 0 ≤ r.h ∧ r.h ≤ 10 ∧ 0 ≤ r.w ∧ r.w ≤ 10 by omega)) Tryd.call42 rfl rfl) ?_
  first | refine al_opd rfl rfl rfl (ao_lenS Tryd.underlying37 (by rfl)) ?_ | refine al_opd rfl rfl rfl (ao_lenN Tryd.underlying37 (by rfl)) ?_ | refine al_opd rfl rfl rfl (ao_lenV Tryd.underlying37 rfl hh) ?_
  refine al_opd rfl rfl rfl (ao_mv (v := .int _ _) rfl) ?_
  refine al_nilT ?_
  refine aw_block ?_
  refine aw_loop (fun (gk : Nat) (fr : AFr) (G : AHeap) => ∃ get : Nat → Value, fr = ⟨29, get⟩ ∧ (∃ i : Nat, i ≤ ((allCells (zT r)).filter (qT r)).length ∧ gk = ((allCells (zT r)).filter (qT r)).length - i ∧ Same H.next H G ∧ H.next + 4 ≤ G.next ∧ G.blk H.next = some (.cells (roomC r) 1) ∧ G.blk (H.next + 1) = some (.cells [.int .i8 0, .int .i8 0, .int .u16 0, .int .u16 0, .int .u16 0, .int .u16 0, .int .u16 0, .int .u16 0, .int .u16 0, .int .u16 0, .int .u16 0, .int .u16 0] 1) ∧ G.blk (H.next + 2) = some (.cells (roomC (putWalls id (zT r) (((allCells (zT r)).filter (qT r)).take i))) 1) ∧ G.blk (H.next + 3) = some (.cells (fl spot ((allCells (zT r)).filter (qT r))) 2) ∧ get 1 = .pointer (some ⟨H.next, 0, none⟩) ∧ get 2 = .pointer (some ⟨H.next + 1, 0, none⟩) ∧ get 4 = .pointer (some ⟨H.next + 2, 0, none⟩) ∧ get 18 = .slice (some ⟨H.next + 3, 0, none⟩) ((allCells (zT r)).filter (qT r)).length (((allCells (zT r)).filter (qT r)).length + 1) ∧ get 19 = .int .i64 ((allCells (zT r)).filter (qT r)).length ∧ get 20 = .int .i64 i)) (((allCells (zT r)).filter (qT r)).length) ⟨_, rfl, ?_⟩ ?_
  · exact ⟨0, by omega, rfl, by exact SMp, by exact LEp, by exact HLp, by exact HLp, by exact HLp, by exact HLp, rfl, rfl, rfl, rfl, rfl, rfl⟩
  · rintro gk fr G ⟨get, rfl, i, hi, rfl, hG, hnx, hb0, hb1, hb2, hb3, g1, g2, g4, g18, g19, g20⟩
    have hh : Sl G spot 2 (.slice (some ⟨H.next + 3, 0, none⟩) ((allCells (zT r)).filter (qT r)).length (((allCells (zT r)).filter (qT r)).length + 1)) ((allCells (zT r)).filter (qT r)) := Sl.full spot_len hb3 rfl rfl rfl
    refine aw_slot (d := 1) (v := .pointer (some ⟨H.next, 0, none⟩)) (by first | assumption | rfl) ?_
    refine aw_slot (d := 2) (v := .pointer (some ⟨H.next + 1, 0, none⟩)) (by first | assumption | rfl) ?_
    refine aw_slot (d := 4) (v := .pointer (some ⟨H.next + 2, 0, none⟩)) (by first | assumption | rfl) ?_
    refine aw_slot (d := 18) (v := .slice (some ⟨H.next + 3, 0, none⟩) ((allCells (zT r)).filter (qT r)).length (((allCells (zT r)).filter (qT r)).length + 1)) (by first | assumption | rfl) ?_
    refine aw_slot (d := 19) (v := .int .i64 ((allCells (zT r)).filter (qT r)).length) (by first | assumption | rfl) ?_
    refine aw_slot (d := 20) (v := .int .i64 i) (by first | assumption | rfl) ?_
    refine aw_seq ?_
    refine aw_region ?_
    refine al_opd rfl rfl rfl (ao_lss rfl rfl) ?_
    refine al_nilT ?_
    refine aw_seq ?_
    refine aw_cond rfl (fun h2_ => ?_) (fun h2_ => ?_)
    · try simp only [nrm] at h2_
      obtain ⟨s, hx⟩ := get_lt (show i < ((allCells (zT r)).filter (qT r)).length by omega)
      have hbb : 0 ≤ s.x ∧ s.x < r.h ∧ 0 ≤ s.y ∧ s.y < r.w := filter_at hx (show 0 ≤ r.h by omega) (show 0 ≤ r.w by omega)
      refine aw_skipT ?_
      refine aw_seq ?_
      refine aw_block ?_
      refine aw_seq ?_
      refine aw_region ?_
      first | refine al_opd rfl rfl rfl (ao_indexAddrS Tryd.underlying37 Tryd.sizeOf48 rfl rfl (by exact IXp) (by exact IXp)) ?_ | refine al_opd rfl rfl rfl (ao_indexV Tryd.underlying37 Tryd.sizeOf48 rfl rfl hh (by exact IXp) (by exact IXp)) ?_
      first | refine al_opd rfl rfl rfl (ao_loada Tryd.isAgg48 Tryd.sizeOf48 rfl (by exact HLp) (by rfl) (by exact RFp)) ?_ | refine al_opd rfl rfl rfl (ao_loadsV (A := #[.int _ _, .int _ _]) Tryd.isAgg48 Tryd.sizeOf48 hh rfl hx rfl (by decide)) ?_
      refine al_opd rfl rfl rfl (ao_alloca (zv48) (by rfl)) ?_
      first | refine al_opd rfl rfl rfl ((ao_storeL Tryd.sizeOf48 (by rfl) (by rfl) (by exact HLp) (by exact RFp) (by exact RFp) (by exact RFp)).to (SetR.eq (by exact SRp))) ?_ | refine al_opd rfl rfl rfl ((ao_storeP (ds := [.int _ _, .int _ _]) Tryd.sizeOf48 (by rfl) (by rfl) (by exact HLp) (by exact RFp) (by exact RFp) (by exact LTp)).to (SetR.eq (by exact SRp))) ?_
      refine al_nilT ?_
      refine aw_region ?_
      first | refine al_opd rfl rfl rfl (ao_loada Tryd.isAgg28 Tryd.sizeOf28 rfl (by exact HLp) (by rfl) (by exact RFp)) ?_ | refine al_opd rfl rfl rfl (ao_loadsV (A := #[.int _ _, .int _ _, .int _ _, .int _ _, .int _ _, .int _ _, .int _ _, .int _ _, .int _ _, .int _ _, .int _ _, .int _ _]) Tryd.isAgg28 Tryd.sizeOf28 hh rfl hx rfl (by decide)) ?_
      first | refine al_opd rfl rfl rfl (ao_loada Tryd.isAgg48 Tryd.sizeOf48 rfl (by exact HLp) (by rfl) (by exact RFp)) ?_ | refine al_opd rfl rfl rfl (ao_loadsV (A := #[.int _ _, .int _ _]) Tryd.isAgg48 Tryd.sizeOf48 hh rfl hx rfl (by decide)) ?_
      refine al_opd rfl rfl rfl (ao_calld (withR_c (r := putWalls id (zT r) (((allCells (zT r)).filter (qT r)).take i)) (on := true) (s := s) (by omega) (by omega)) Tryd.call38 rfl rfl) ?_
      first | refine al_opd rfl rfl rfl ((ao_storeL Tryd.sizeOf28 (by rfl) (by rfl) (by exact HLp) (by exact RFp) (by exact RFp) (by exact RFp)).to (SetR.eq (by exact SRp))) ?_ | refine al_opd rfl rfl rfl ((ao_storeP (ds := [.int _ _, .int _ _, .int _ _, .int _ _, .int _ _, .int _ _, .int _ _, .int _ _, .int _ _, .int _ _, .int _ _, .int _ _]) Tryd.sizeOf28 (by rfl) (by rfl) (by exact HLp) (by exact RFp) (by exact RFp) (by exact LTp)).to (SetR.eq (by exact SRp))) ?_
      refine al_nilB ?_
      refine thenA_n ?_
      refine aw_region ?_
      first | refine al_opd rfl rfl rfl ((ao_add rfl rfl).val (nw_i64 BDp BDp)) ?_ | refine al_opd rfl rfl rfl (ao_add rfl rfl) ?_
      refine al_opd rfl rfl rfl (ao_mv (v := .int _ _) rfl) ?_
      refine al_nilT ?_
      exact ⟨_, by omega, _, rfl, i + 1, by omega, rfl, by exact SMp, by exact LEp, by exact HLp, by exact HLp, by rw [← putWalls_take hx]; exact (by exact HLp), by exact HLp, rfl, rfl, rfl, rfl, rfl, by rfl⟩
    · try simp only [nrm] at h2_
      refine aw_exit ?_
      refine thenA_x ?_
      refine thenA_x ?_
      refine blockA_hit ?_
      refine thenA_n ?_
      refine aw_seq ?_
      refine aw_region ?_
      first | refine al_opd rfl rfl rfl (ao_loada Tryd.isAgg28 Tryd.sizeOf28 rfl (by exact HLp) (by rfl) (by exact RFp)) ?_ | refine al_opd rfl rfl rfl (ao_loadsV (A := #[.int _ _, .int _ _, .int _ _, .int _ _, .int _ _, .int _ _, .int _ _, .int _ _, .int _ _, .int _ _, .int _ _, .int _ _]) Tryd.isAgg28 Tryd.sizeOf28 hh rfl hx rfl (by decide)) ?_
      first | refine al_opd rfl rfl rfl ((ao_storeL Tryd.sizeOf28 (by rfl) (by rfl) (by exact HLp) (by exact RFp) (by exact RFp) (by exact RFp)).to (SetR.eq (by exact SRp))) ?_ | refine al_opd rfl rfl rfl ((ao_storeP (ds := [.int _ _, .int _ _, .int _ _, .int _ _, .int _ _, .int _ _, .int _ _, .int _ _, .int _ _, .int _ _, .int _ _, .int _ _]) Tryd.sizeOf28 (by rfl) (by rfl) (by exact HLp) (by exact RFp) (by exact RFp) (by exact LTp)).to (SetR.eq (by exact SRp))) ?_
      refine al_opd rfl rfl rfl (ao_as (v := .int _ _) rfl) ?_
      refine al_nilT ?_
      refine aw_ret ?_
      refine ends2 rfl (rv_cella Tryd.isAgg28 Tryd.sizeOf28 rfl (by exact HLp) (by rfl) (by exact RFp)) (rv_tmp (v := .int _ _) rfl) ?_
      exact ⟨by rw [List.take_of_length_le (by omega)]; rfl, by exact SMp⟩

end Go.Proofs.YtmmmjdbknepjgaaDoor
