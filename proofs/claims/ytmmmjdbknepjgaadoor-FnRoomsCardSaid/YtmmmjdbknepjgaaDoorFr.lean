/- Contracts of the program's functions over abstract heaps. -/
import Derived.Test.YtmmmjdbknepjgaaDoorVr
import Derived.Test.YtmmmjdbknepjgaaDoorFn
namespace Go.Proofs.YtmmmjdbknepjgaaDoor
open Go Go.AW Go.Proofs
set_option linter.unusedVariables false
set_option linter.unusedSimpArgs false
set_option maxRecDepth 100000
set_option maxHeartbeats 2000000

-- (impl.Room).with
theorem withR_c {r : Room} {s : Spot} {on : Bool} {H : AHeap} (hx : 0 ≤ s.x ∧ s.x < 10) (hy : 0 ≤ s.y ∧ s.y < 10) : ACd Tryd.prog 38 [.agg (roomC r).toArray, .agg #[.int .i8 s.x, .int .i8 s.y], .bool on] H (.agg (roomC (wallR r s on)).toArray) (H) := by
  refine ac_gc0 (fun β => VR.plainT β (by first | rfl | simp [plainT, plainV, plain1])) (ac_body Tryd.func38 rfl Tryd.ntmps38 rfl ?_)
  refine aw_seq ?_
  refine aw_region ?_
  refine al_opd rfl rfl rfl (ao_boxa (by rfl)) ?_
  refine al_opd rfl rfl rfl (ao_boxa (by rfl)) ?_
  refine al_opd rfl rfl rfl (ao_alloca (zv28) (by rfl)) ?_
  refine al_nilT ?_
  refine aw_seq ?_
  refine aw_draw (m := 11) mo (by kernel_rfl) rfl (fun _ _ _ h => h) ?_
  refine dw_opd rfl rfl rfl (ao_fieldAddr fo_48_1 rfl) ?_
  refine dw_opd rfl rfl rfl (ao_load (v := .int _ _) Tryd.isAgg24 (by rfl) (by exact HLp) (by rfl) (by first | rfl | exact wallsL _ _ (by omega) | exact roomL _ _ (by omega) | exact roomLI _ _ (by omega) | (simp; (first | done | fail)))) ?_
  refine dw_opd rfl rfl rfl (ao_fieldAddr fo_28_2 rfl) ?_
  refine dw_opd rfl rfl rfl (ao_indexAddrA Tryd.underlying26 Tryd.sizeOf25 rfl rfl (by exact IXp) (by exact IXp)) ?_
  refine dw_opd rfl rfl rfl (ao_load (v := .int _ _) Tryd.isAgg25 (by rfl) (by exact HLp) (by rfl) (by first | rfl | exact wallsL _ _ (by omega) | exact roomL _ _ (by omega) | exact roomLI _ _ (by omega) | (simp; (first | done | fail)))) ?_
  refine dw_opd rfl rfl rfl (ao_fieldAddr fo_48_0 rfl) ?_
  refine dw_opd rfl rfl rfl (ao_load (v := .int _ _) Tryd.isAgg24 (by rfl) (by exact HLp) (by rfl) (by first | rfl | exact wallsL _ _ (by omega) | exact roomL _ _ (by omega) | exact roomLI _ _ (by omega) | (simp; (first | done | fail)))) ?_
  refine dw_opd rfl rfl rfl ((ao_shl rfl rfl (by omega)).val (shl16 s.x (by omega) (by omega))) ?_
  refine dw_opd rfl rfl rfl ((ao_andNot rfl rfl).val (bitsNV _ _ _)) ?_
  refine dw_opd rfl rfl rfl (ao_fieldAddr fo_28_2 rfl) ?_
  refine dw_opd rfl rfl rfl (ao_indexAddrA Tryd.underlying26 Tryd.sizeOf25 rfl rfl (by exact IXp) (by exact IXp)) ?_
  refine dw_end ?_
  refine al_opd rfl rfl rfl ((ao_store1 (v := .int _ _) Tryd.sizeOf25 (by rfl) (by rfl) (by exact HLp) (by rfl) (by (show _ < 12; omega))).to (SetR.eq (by exact SRp))) ?_
  try rw [roomC_putI _ s.y _ (by omega)]
  refine al_nilT ?_
  refine aw_seq ?_
  refine aw_seq ?_
  refine aw_region ?_
  refine al_opd rfl rfl rfl (ao_mv (v := .bool _) rfl) ?_
  refine al_nilT ?_
  refine aw_cond rfl (fun h1_ => ?_) (fun h1_ => ?_)
  · try simp only [nrm] at h1_
    refine aw_draw (m := 11) mo (by kernel_rfl) rfl (fun _ _ _ h => h) ?_
    refine dw_opd rfl rfl rfl (ao_fieldAddr fo_48_1 rfl) ?_
    refine dw_opd rfl rfl rfl (ao_load (v := .int _ _) Tryd.isAgg24 (by rfl) (by exact HLp) (by rfl) (by first | rfl | exact wallsL _ _ (by omega) | exact roomL _ _ (by omega) | exact roomLI _ _ (by omega) | (simp; (first | done | fail)))) ?_
    refine dw_opd rfl rfl rfl (ao_fieldAddr fo_28_2 rfl) ?_
    refine dw_opd rfl rfl rfl (ao_indexAddrA Tryd.underlying26 Tryd.sizeOf25 rfl rfl (by exact IXp) (by exact IXp)) ?_
    refine dw_opd rfl rfl rfl (ao_load (v := .int _ _) Tryd.isAgg25 (by rfl) (by exact HLp) (by rfl) (by first | rfl | exact wallsL _ _ (by omega) | exact roomL _ _ (by omega) | exact roomLI _ _ (by omega) | (simp; (first | done | fail)))) ?_
    refine dw_opd rfl rfl rfl (ao_fieldAddr fo_48_0 rfl) ?_
    refine dw_opd rfl rfl rfl (ao_load (v := .int _ _) Tryd.isAgg24 (by rfl) (by exact HLp) (by rfl) (by first | rfl | exact wallsL _ _ (by omega) | exact roomL _ _ (by omega) | exact roomLI _ _ (by omega) | (simp; (first | done | fail)))) ?_
    refine dw_opd rfl rfl rfl ((ao_shl rfl rfl (by omega)).val (shl16 s.x (by omega) (by omega))) ?_
    refine dw_opd rfl rfl rfl ((ao_or rfl rfl).val (bitsNV _ _ _)) ?_
    refine dw_opd rfl rfl rfl (ao_fieldAddr fo_28_2 rfl) ?_
    refine dw_opd rfl rfl rfl (ao_indexAddrA Tryd.underlying26 Tryd.sizeOf25 rfl rfl (by exact IXp) (by exact IXp)) ?_
    refine dw_end ?_
    refine al_opd rfl rfl rfl ((ao_store1 (v := .int _ _) Tryd.sizeOf25 (by rfl) (by rfl) (by exact HLp) (by rfl) (by (show _ < 12; omega))).to (SetR.eq (by exact SRp))) ?_
    try rw [roomC_putI _ s.y _ (by omega)]
    refine al_nilT ?_
    refine aw_seq ?_
    refine aw_region ?_
    refine al_opd rfl rfl rfl (ao_loada Tryd.isAgg28 Tryd.sizeOf28 rfl (by exact HLp) (by rfl) (by first | rfl | exact wallsL _ _ (by omega) | exact roomL _ _ (by omega) | exact roomLI _ _ (by omega) | (simp; (first | done | fail)))) ?_
    first | refine al_opd rfl rfl rfl ((ao_storeL Tryd.sizeOf28 (by rfl) (by rfl) (by exact HLp) (by first | rfl | exact wallsL _ _ (by omega) | exact roomL _ _ (by omega) | exact roomLI _ _ (by omega) | (simp; (first | done | fail))) (by first | rfl | exact wallsL _ _ (by omega) | exact roomL _ _ (by omega) | exact roomLI _ _ (by omega) | (simp; (first | done | fail))) (by first | rfl | exact wallsL _ _ (by omega) | exact roomL _ _ (by omega) | exact roomLI _ _ (by omega) | (simp; (first | done | fail)))).to (SetR.eq (by exact SRp))) ?_ | refine al_opd rfl rfl rfl ((ao_storeP (ds := [.int _ _, .int _ _, .int _ _, .int _ _, .int _ _, .int _ _, .int _ _, .int _ _, .int _ _, .int _ _, .int _ _, .int _ _]) Tryd.sizeOf28 (by rfl) (by rfl) (by exact HLp) (by first | rfl | exact wallsL _ _ (by omega) | exact roomL _ _ (by omega) | exact roomLI _ _ (by omega) | (simp; (first | done | fail))) (by first | rfl | exact wallsL _ _ (by omega) | exact roomL _ _ (by omega) | exact roomLI _ _ (by omega) | (simp; (first | done | fail))) (by (show _ < 12; omega))).to (SetR.eq (by exact SRp))) ?_
    try rw [roomC_putI _ s.y _ (by omega)]
    refine al_nilT ?_
    refine aw_ret ?_
    refine ends1 rfl (rv_cella Tryd.isAgg28 Tryd.sizeOf28 rfl (by exact HLp) (by rfl) (by first | rfl | exact wallsL _ _ (by omega) | exact roomL _ _ (by omega) | exact roomLI _ _ (by omega) | (simp; (first | done | fail)))) ?_
    exact ⟨by subst h1_; rfl, by exact SMp⟩
  · try simp only [nrm] at h1_
    refine aw_skipT ?_
    refine aw_seq ?_
    refine aw_region ?_
    refine al_opd rfl rfl rfl (ao_loada Tryd.isAgg28 Tryd.sizeOf28 rfl (by exact HLp) (by rfl) (by first | rfl | exact wallsL _ _ (by omega) | exact roomL _ _ (by omega) | exact roomLI _ _ (by omega) | (simp; (first | done | fail)))) ?_
    first | refine al_opd rfl rfl rfl ((ao_storeL Tryd.sizeOf28 (by rfl) (by rfl) (by exact HLp) (by first | rfl | exact wallsL _ _ (by omega) | exact roomL _ _ (by omega) | exact roomLI _ _ (by omega) | (simp; (first | done | fail))) (by first | rfl | exact wallsL _ _ (by omega) | exact roomL _ _ (by omega) | exact roomLI _ _ (by omega) | (simp; (first | done | fail))) (by first | rfl | exact wallsL _ _ (by omega) | exact roomL _ _ (by omega) | exact roomLI _ _ (by omega) | (simp; (first | done | fail)))).to (SetR.eq (by exact SRp))) ?_ | refine al_opd rfl rfl rfl ((ao_storeP (ds := [.int _ _, .int _ _, .int _ _, .int _ _, .int _ _, .int _ _, .int _ _, .int _ _, .int _ _, .int _ _, .int _ _, .int _ _]) Tryd.sizeOf28 (by rfl) (by rfl) (by exact HLp) (by first | rfl | exact wallsL _ _ (by omega) | exact roomL _ _ (by omega) | exact roomLI _ _ (by omega) | (simp; (first | done | fail))) (by first | rfl | exact wallsL _ _ (by omega) | exact roomL _ _ (by omega) | exact roomLI _ _ (by omega) | (simp; (first | done | fail))) (by (show _ < 12; omega))).to (SetR.eq (by exact SRp))) ?_
    try rw [roomC_putI _ s.y _ (by omega)]
    refine al_nilT ?_
    refine aw_ret ?_
    refine ends1 rfl (rv_cella Tryd.isAgg28 Tryd.sizeOf28 rfl (by exact HLp) (by rfl) (by first | rfl | exact wallsL _ _ (by omega) | exact roomL _ _ (by omega) | exact roomLI _ _ (by omega) | (simp; (first | done | fail)))) ?_
    exact ⟨by subst h1_; rfl, by exact SMp⟩

-- spec.l01Wall
theorem l01Wall_c {r : Room} {s : Spot} {on : Bool} {pb : Nat} {H : AHeap} (hp : H.blk pb = some (.cells (roomC r) 1)) (hx : 0 ≤ s.x ∧ s.x < 10) (hy : 0 ≤ s.y ∧ s.y < 10) : ACd Tryd.prog 45 [.pointer (some ⟨pb, 0, none⟩), .agg #[.int .i8 s.x, .int .i8 s.y], .bool on] H (.tuple #[]) (H.set pb (.cells (roomC (wallR r s on)) 1)) := by
  refine ac_gc1 (fun β => VR.undef β) (vrl_room _) ⟨_, hp⟩ (ac_body Tryd.func45 rfl Tryd.ntmps45 rfl ?_)
  refine aw_seq ?_
  refine aw_region ?_
  refine al_opd rfl rfl rfl (ao_boxa (by rfl)) ?_
  refine al_nilT ?_
  refine aw_seq ?_
  refine aw_draw (m := 18) mo (by kernel_rfl) rfl (fun _ _ _ h => h) ?_
  refine dw_opd rfl rfl rfl (ao_mv (v := .pointer _) rfl) ?_
  refine dw_opd rfl rfl rfl (ao_fieldAddr fo_48_1 rfl) ?_
  refine dw_opd rfl rfl rfl (ao_load (v := .int _ _) Tryd.isAgg24 (by rfl) (by exact HLp) (by rfl) (by first | rfl | exact wallsL _ _ (by omega) | exact roomL _ _ (by omega) | exact roomLI _ _ (by omega) | (simp; (first | done | fail)))) ?_
  refine dw_opd rfl rfl rfl (ao_mv (v := .pointer _) rfl) ?_
  refine dw_opd rfl rfl rfl (ao_fieldAddr fo_48_1 rfl) ?_
  refine dw_opd rfl rfl rfl (ao_load (v := .int _ _) Tryd.isAgg24 (by rfl) (by exact HLp) (by rfl) (by first | rfl | exact wallsL _ _ (by omega) | exact roomL _ _ (by omega) | exact roomLI _ _ (by omega) | (simp; (first | done | fail)))) ?_
  refine dw_opd rfl rfl rfl (ao_nilCheck rfl) ?_
  refine dw_opd rfl rfl rfl (ao_fieldAddr fo_28_2 rfl) ?_
  refine dw_opd rfl rfl rfl (ao_indexAddrA Tryd.underlying26 Tryd.sizeOf25 rfl rfl (by exact IXp) (by exact IXp)) ?_
  refine dw_opd rfl rfl rfl (ao_load (v := .int _ _) Tryd.isAgg25 (by rfl) (by exact HLp) (by rfl) (by first | rfl | exact wallsL _ _ (by omega) | exact roomL _ _ (by omega) | exact roomLI _ _ (by omega) | (simp; (first | done | fail)))) ?_
  refine dw_opd rfl rfl rfl (ao_fieldAddr fo_48_0 rfl) ?_
  refine dw_opd rfl rfl rfl (ao_load (v := .int _ _) Tryd.isAgg24 (by rfl) (by exact HLp) (by rfl) (by first | rfl | exact wallsL _ _ (by omega) | exact roomL _ _ (by omega) | exact roomLI _ _ (by omega) | (simp; (first | done | fail)))) ?_
  first | refine dw_opd rfl rfl rfl ((ao_conv ⟨_, Tryd.underlying24⟩ Tryd.underlying87 rfl).val (nw_u64 BDp BDp)) ?_ | refine dw_opd rfl rfl rfl (ao_conv ⟨_, Tryd.underlying24⟩ Tryd.underlying87 rfl) ?_
  refine dw_opd rfl rfl rfl ((ao_shl rfl rfl (by omega)).val (shl16 s.x (by omega) (by omega))) ?_
  refine dw_opd rfl rfl rfl ((ao_andNot rfl rfl).val (bitsNV _ _ _)) ?_
  refine dw_opd rfl rfl rfl (ao_nilCheck rfl) ?_
  refine dw_opd rfl rfl rfl (ao_fieldAddr fo_28_2 rfl) ?_
  refine dw_opd rfl rfl rfl (ao_indexAddrA Tryd.underlying26 Tryd.sizeOf25 rfl rfl (by exact IXp) (by exact IXp)) ?_
  refine dw_end ?_
  refine al_opd rfl rfl rfl ((ao_store1 (v := .int _ _) Tryd.sizeOf25 (by rfl) (by rfl) (by exact HLp) (by rfl) (by (show _ < 12; omega))).to (SetR.eq (by exact SRp))) ?_
  try rw [roomC_putI _ s.y _ (by omega)]
  refine al_nilT ?_
  refine aw_seq ?_
  refine aw_region ?_
  refine al_opd rfl rfl rfl (ao_mv (v := .bool _) rfl) ?_
  refine al_nilT ?_
  refine aw_cond rfl (fun h1_ => ?_) (fun h1_ => ?_)
  · try simp only [nrm] at h1_
    refine aw_draw (m := 18) mo (by kernel_rfl) rfl (fun _ _ _ h => h) ?_
    refine dw_opd rfl rfl rfl (ao_mv (v := .pointer _) rfl) ?_
    refine dw_opd rfl rfl rfl (ao_fieldAddr fo_48_1 rfl) ?_
    refine dw_opd rfl rfl rfl (ao_load (v := .int _ _) Tryd.isAgg24 (by rfl) (by exact HLp) (by rfl) (by first | rfl | exact wallsL _ _ (by omega) | exact roomL _ _ (by omega) | exact roomLI _ _ (by omega) | (simp; (first | done | fail)))) ?_
    refine dw_opd rfl rfl rfl (ao_mv (v := .pointer _) rfl) ?_
    refine dw_opd rfl rfl rfl (ao_fieldAddr fo_48_1 rfl) ?_
    refine dw_opd rfl rfl rfl (ao_load (v := .int _ _) Tryd.isAgg24 (by rfl) (by exact HLp) (by rfl) (by first | rfl | exact wallsL _ _ (by omega) | exact roomL _ _ (by omega) | exact roomLI _ _ (by omega) | (simp; (first | done | fail)))) ?_
    refine dw_opd rfl rfl rfl (ao_nilCheck rfl) ?_
    refine dw_opd rfl rfl rfl (ao_fieldAddr fo_28_2 rfl) ?_
    refine dw_opd rfl rfl rfl (ao_indexAddrA Tryd.underlying26 Tryd.sizeOf25 rfl rfl (by exact IXp) (by exact IXp)) ?_
    refine dw_opd rfl rfl rfl (ao_load (v := .int _ _) Tryd.isAgg25 (by rfl) (by exact HLp) (by rfl) (by first | rfl | exact wallsL _ _ (by omega) | exact roomL _ _ (by omega) | exact roomLI _ _ (by omega) | (simp; (first | done | fail)))) ?_
    refine dw_opd rfl rfl rfl (ao_fieldAddr fo_48_0 rfl) ?_
    refine dw_opd rfl rfl rfl (ao_load (v := .int _ _) Tryd.isAgg24 (by rfl) (by exact HLp) (by rfl) (by first | rfl | exact wallsL _ _ (by omega) | exact roomL _ _ (by omega) | exact roomLI _ _ (by omega) | (simp; (first | done | fail)))) ?_
    first | refine dw_opd rfl rfl rfl ((ao_conv ⟨_, Tryd.underlying24⟩ Tryd.underlying87 rfl).val (nw_u64 BDp BDp)) ?_ | refine dw_opd rfl rfl rfl (ao_conv ⟨_, Tryd.underlying24⟩ Tryd.underlying87 rfl) ?_
    refine dw_opd rfl rfl rfl ((ao_shl rfl rfl (by omega)).val (shl16 s.x (by omega) (by omega))) ?_
    refine dw_opd rfl rfl rfl ((ao_or rfl rfl).val (bitsNV _ _ _)) ?_
    refine dw_opd rfl rfl rfl (ao_nilCheck rfl) ?_
    refine dw_opd rfl rfl rfl (ao_fieldAddr fo_28_2 rfl) ?_
    refine dw_opd rfl rfl rfl (ao_indexAddrA Tryd.underlying26 Tryd.sizeOf25 rfl rfl (by exact IXp) (by exact IXp)) ?_
    refine dw_end ?_
    refine al_opd rfl rfl rfl ((ao_store1 (v := .int _ _) Tryd.sizeOf25 (by rfl) (by rfl) (by exact HLp) (by rfl) (by (show _ < 12; omega))).to (SetR.eq (by exact SRp))) ?_
    try rw [roomC_putI _ s.y _ (by omega)]
    refine al_nil ?_
    refine ends0n rfl ?_
    refine ⟨rfl, ?_⟩
    subst h1_
    exact (by exact SMp)
  · try simp only [nrm] at h1_
    refine aw_skip ?_
    refine ends0n rfl ?_
    refine ⟨rfl, ?_⟩
    subst h1_
    exact (by exact SMp)

-- impl.SetWall
theorem implSet1_c {r : Room} {s : Spot} {on : Bool} {H : AHeap} (hw : wfRoom r) (hs : wfSpot s) (hr : okRoom r) (hcl : isCell r s) : ACd Tryd.prog 25 [.agg (roomC r).toArray, .agg #[.int .i8 s.x, .int .i8 s.y], .bool on] H (.tuple #[.agg (roomC (wallR r s on)).toArray, .int .i64 0]) (H) := by
  have ⟨c1, c2, c3, c4, c5, c6⟩ := hcl
  refine ac_gc0 (fun β => VR.plainT β (by first | rfl | simp [plainT, plainV, plain1])) (ac_body Tryd.func25 rfl Tryd.ntmps25 rfl ?_)
  refine aw_seq ?_
  refine aw_region ?_
  refine al_opd rfl rfl rfl (ao_boxa (by rfl)) ?_
  refine al_opd rfl rfl rfl (ao_boxa (by rfl)) ?_
  refine al_opd rfl rfl rfl (ao_alloca (zv28) (by rfl)) ?_
  refine al_opd rfl rfl rfl (ao_as (v := .int _ _) rfl) ?_
  refine al_nilT ?_
  refine aw_seq ?_
  refine aw_seq ?_
  refine aw_region ?_
  refine al_opd rfl rfl rfl (ao_loada Tryd.isAgg28 Tryd.sizeOf28 rfl (by exact HLp) (by rfl) (by exact RFp)) ?_
  refine al_opd rfl rfl rfl (ao_loada Tryd.isAgg48 Tryd.sizeOf48 rfl (by exact HLp) (by rfl) (by exact RFp)) ?_
  refine al_opd rfl rfl rfl (ao_lit1 (v := .agg _) Tryd.underlying37 Tryd.sizeOf48 Tryd.zeroValue48 (by rfl) (by rfl) rfl rfl (by rfl) (by exact RFp)) ?_
  refine al_opd rfl rfl rfl (ao_calld (cellCode_c (r := r) (l := [s]) (c := 0) hw (fun i x h => by match i with | 0 => (simp at h; subst h; exact hs) | i + 1 => (simp at h)) (Sl.full spot_len (by exact HLp) rfl rfl rfl) (by simp) (ask_cell (show askC r s true 0 from .inr (.inr ⟨hr, hcl, rfl, rfl⟩)))) Tryd.call55 rfl rfl) ?_
  refine al_opd rfl rfl rfl (ao_as (v := .int _ _) rfl) ?_
  refine al_nilT ?_
  refine aw_seq ?_
  refine aw_region ?_
  refine al_opd rfl rfl rfl (ao_mv (v := .int _ _) rfl) ?_
  refine al_opd rfl rfl rfl (ao_neq rfl rfl) ?_
  refine al_nilT ?_
  refine aw_cond rfl (fun h1_ => ?_) (fun h1_ => ?_)
  · try simp only [nrm] at h1_
    first | done | omega | (exfalso; revert h1_; simp; (first | done | omega))
  try simp only [nrm] at h1_
  refine aw_skipT ?_
  refine aw_seq ?_
  refine aw_region ?_
  refine al_opd rfl rfl rfl (ao_loada Tryd.isAgg28 Tryd.sizeOf28 rfl (by exact HLp) (by rfl) (by exact RFp)) ?_
  refine al_opd rfl rfl rfl (ao_loada Tryd.isAgg48 Tryd.sizeOf48 rfl (by exact HLp) (by rfl) (by exact RFp)) ?_
  refine al_opd rfl rfl rfl (ao_mv (v := .bool _) rfl) ?_
  refine al_opd rfl rfl rfl (ao_calld (withR_c (r := r) (s := s) (on := on) (by omega) (by omega)) Tryd.call38 rfl rfl) ?_
  first | refine al_opd rfl rfl rfl ((ao_storeL Tryd.sizeOf28 (by rfl) (by rfl) (by exact HLp) (by exact RFp) (by exact RFp) (by exact RFp)).to (SetR.eq (by exact SRp))) ?_ | refine al_opd rfl rfl rfl ((ao_storeP (ds := [.int _ _, .int _ _, .int _ _, .int _ _, .int _ _, .int _ _, .int _ _, .int _ _, .int _ _, .int _ _, .int _ _, .int _ _]) Tryd.sizeOf28 (by rfl) (by rfl) (by exact HLp) (by exact RFp) (by exact RFp) (by exact LTp)).to (SetR.eq (by exact SRp))) ?_
  refine al_opd rfl rfl rfl (ao_as (v := .int _ _) rfl) ?_
  refine al_nilT ?_
  refine aw_ret ?_
  refine ends2 rfl (rv_cella Tryd.isAgg28 Tryd.sizeOf28 rfl (by exact HLp) (by rfl) (by exact RFp)) (rv_tmp (v := .int _ _) rfl) ?_
  exact ⟨by first | rfl | (simp [*]; (first | done | fail)), by exact SMp⟩

-- (impl.Room).cells
theorem cells_c {fnum : Nat} {fs cs : Array Value} {r : Room} {p : Spot → Bool} {H : AHeap} (hfn : ∀ (args : Array Value) (w : World), (callFunc fnum args).run Tryd.prog w = .ok (.enter fnum args) w) (hcall : ∀ (G : AHeap) (x y : Nat), Same H.next H G → (x : Int) < r.w → (y : Int) < r.h → ACd Tryd.prog fnum (fs.toList ++ [.agg #[.int .i8 (x : Int), .int .i8 (y : Int)]] ++ cs.toList) G (.bool (p ⟨(x : Int), (y : Int)⟩)) G) (h10 : 0 ≤ r.w ∧ r.w ≤ 10 ∧ 0 ≤ r.h ∧ r.h ≤ 10) : ACd Tryd.prog 42 [.agg (roomC r).toArray, .func (.func fnum) fs cs] H (.slice (some ⟨H.next, 0, none⟩) ((allCells r).filter p).length (((allCells r).filter p).length + 1)) (H.push (.cells (fl spot ((allCells r).filter p)) 2)) := by
  refine ac_gcs (vrl_fl spot_plain _) (ac_body Tryd.func42 rfl Tryd.ntmps42 rfl ?_)
  refine aw_seq ?_
  refine aw_region ?_
  refine al_opd rfl rfl rfl (ao_boxa (by rfl)) ?_
  first | refine al_opd rfl rfl rfl (ao_as (v := .slice _ _ _) rfl) ?_ | refine al_opd rfl rfl rfl (ao_as (v := .func (.func fnum) fs cs) rfl) ?_
  refine al_nilT ?_
  refine aw_seq ?_
  refine aw_region ?_
  refine al_opd rfl rfl rfl (ao_lit0 Tryd.underlying37 Tryd.sizeOf48 Tryd.zeroValue48 (by rfl) (by rfl) rfl) ?_
  first | refine al_opd rfl rfl rfl (ao_as (v := .slice _ _ _) rfl) ?_ | refine al_opd rfl rfl rfl (ao_as (v := .func (.func fnum) fs cs) rfl) ?_
  refine al_nilT ?_
  refine aw_seq ?_
  refine aw_seq ?_
  refine aw_region ?_
  refine al_opd rfl rfl rfl (ao_fieldAddr fo_28_1 rfl) ?_
  refine al_opd rfl rfl rfl (ao_load (v := .int _ _) Tryd.isAgg24 (by rfl) (by exact HLp) (by rfl) (by first | rfl | exact wallsL _ _ (by omega) | exact roomL _ _ (by omega) | exact roomLI _ _ (by omega) | (simp; (first | done | fail)))) ?_
  refine al_opd rfl rfl rfl (ao_mv (v := .int _ _) rfl) ?_
  refine al_nilT ?_
  refine aw_block ?_
  refine aw_loop (fun (gk : Nat) (fr : AFr) (G : AHeap) => ∃ get : Nat → Value, fr = ⟨33, get⟩ ∧ (∃ (y n pb c : Nat), (y : Int) ≤ r.h ∧ gk = r.h.toNat - y ∧ Same H.next H G ∧ G.blk H.next = some (.cells (roomC r) 1) ∧ H.next + 1 ≤ pb ∧ pb < G.next ∧ G.blk pb = some (.cells (fl spot ((cellsTo r.w.toNat y 0).filter p)) 2) ∧ n = ((cellsTo r.w.toNat y 0).filter p).length ∧ n ≤ c ∧ get 5 = .slice (some ⟨pb, 0, none⟩) n c ∧ get 12 = .int .i8 y ∧ get 11 = .int .i8 r.h ∧ get 1 = .func (.func fnum) fs cs ∧ get 2 = .pointer (some ⟨H.next, 0, none⟩))) (r.h.toNat) ⟨_, rfl, ?_⟩ ?_
  · refine ⟨0, 0, _, _, by omega, rfl, by exact SMp, by exact HLp, ?_, ?_, by exact HLp, rfl, Nat.le_refl _, rfl, rfl, rfl, rfl, rfl⟩ <;> exact LNp
  · rintro gk fr G ⟨get, rfl, y, n, pb, c, hy, rfl, hG, hbx, hpb, hlt, hkb, hn, hc, gs, gy, gh, k0, k1⟩
    refine aw_slot (d := 5) (v := .slice (some ⟨pb, 0, none⟩) n c) (by first | assumption | rfl) ?_
    refine aw_slot (d := 12) (v := .int .i8 y) (by first | assumption | rfl) ?_
    refine aw_slot (d := 11) (v := .int .i8 r.h) (by first | assumption | rfl) ?_
    refine aw_slot (d := 1) (v := .func (.func fnum) fs cs) (by first | assumption | rfl) ?_
    refine aw_slot (d := 2) (v := .pointer (some ⟨H.next, 0, none⟩)) (by first | assumption | rfl) ?_
    refine aw_seq ?_
    refine aw_region ?_
    refine al_opd rfl rfl rfl (ao_lss rfl rfl) ?_
    refine al_nilT ?_
    refine aw_seq ?_
    refine aw_cond rfl (fun h1_ => ?_) (fun h1_ => ?_)
    · try simp only [nrm] at h1_
      refine aw_skipT ?_
      refine aw_seq ?_
      refine aw_block ?_
      refine aw_seq ?_
      refine aw_region ?_
      refine al_opd rfl rfl rfl (ao_mv (v := .int _ _) rfl) ?_
      refine al_opd rfl rfl rfl (ao_as (v := .int _ _) rfl) ?_
      refine al_nilT ?_
      refine aw_seq ?_
      refine aw_region ?_
      refine al_opd rfl rfl rfl (ao_fieldAddr fo_28_0 rfl) ?_
      refine al_opd rfl rfl rfl (ao_load (v := .int _ _) Tryd.isAgg24 (by rfl) (by exact HLp) (by rfl) (by first | rfl | exact wallsL _ _ (by omega) | exact roomL _ _ (by omega) | exact roomLI _ _ (by omega) | (simp; (first | done | fail)))) ?_
      refine al_opd rfl rfl rfl (ao_mv (v := .int _ _) rfl) ?_
      refine al_nilT ?_
      refine aw_block ?_
      refine aw_loop (fun (gk : Nat) (fr : AFr) (G : AHeap) => ∃ get : Nat → Value, fr = ⟨33, get⟩ ∧ (∃ (x n pb c : Nat), (x : Int) ≤ r.w ∧ gk = r.w.toNat - x ∧ Same H.next H G ∧ G.blk H.next = some (.cells (roomC r) 1) ∧ H.next + 1 ≤ pb ∧ pb < G.next ∧ G.blk pb = some (.cells (fl spot ((cellsTo r.w.toNat y x).filter p)) 2) ∧ n = ((cellsTo r.w.toNat y x).filter p).length ∧ n ≤ c ∧ get 5 = .slice (some ⟨pb, 0, none⟩) n c ∧ get 12 = .int .i8 y ∧ get 17 = .int .i8 x ∧ get 11 = .int .i8 r.h ∧ get 16 = .int .i8 r.w ∧ get 1 = .func (.func fnum) fs cs ∧ get 2 = .pointer (some ⟨H.next, 0, none⟩) ∧ get 6 = .int .i8 y)) (r.w.toNat) ⟨_, rfl, ?_⟩ ?_
      · exact ⟨0, n, pb, c, by omega, rfl, hG, hbx, hpb, hlt, hkb, hn, hc, rfl, rfl, rfl, rfl, rfl, rfl, rfl, rfl⟩
      · rintro gk fr G ⟨get, rfl, x, n, pb, c, hx, rfl, hG, hbx, hpb, hlt, hkb, hn, hc, gs, gy, gx, gh, gw, k0, k1, j0⟩
        have hlen := filter_lenTo r.w.toNat y x p (by omega) (by omega) (by omega)
        refine aw_slot (d := 5) (v := .slice (some ⟨pb, 0, none⟩) n c) (by first | assumption | rfl) ?_
        refine aw_slot (d := 12) (v := .int .i8 y) (by first | assumption | rfl) ?_
        refine aw_slot (d := 17) (v := .int .i8 x) (by first | assumption | rfl) ?_
        refine aw_slot (d := 11) (v := .int .i8 r.h) (by first | assumption | rfl) ?_
        refine aw_slot (d := 16) (v := .int .i8 r.w) (by first | assumption | rfl) ?_
        refine aw_slot (d := 1) (v := .func (.func fnum) fs cs) (by first | assumption | rfl) ?_
        refine aw_slot (d := 2) (v := .pointer (some ⟨H.next, 0, none⟩)) (by first | assumption | rfl) ?_
        refine aw_slot (d := 6) (v := .int .i8 y) (by first | assumption | rfl) ?_
        refine aw_seq ?_
        refine aw_region ?_
        refine al_opd rfl rfl rfl (ao_lss rfl rfl) ?_
        refine al_nilT ?_
        refine aw_seq ?_
        refine aw_cond rfl (fun h2_ => ?_) (fun h2_ => ?_)
        · try simp only [nrm] at h2_
          refine aw_skipT ?_
          refine aw_seq ?_
          refine aw_block ?_
          refine aw_seq ?_
          refine aw_region ?_
          refine al_opd rfl rfl rfl (ao_mv (v := .int _ _) rfl) ?_
          refine al_opd rfl rfl rfl (ao_as (v := .int _ _) rfl) ?_
          refine al_nilT ?_
          refine aw_seq ?_
          refine aw_region ?_
          refine al_opd rfl rfl rfl (ao_mv (v := .int _ _) rfl) ?_
          refine al_opd rfl rfl rfl (ao_mv (v := .int _ _) rfl) ?_
          refine al_opd rfl rfl rfl (ao_build (A := #[.int .i8 (x : Int), .int .i8 (y : Int)]) Tryd.zeroValue48 (by rfl) (by first | rfl | kernel_rfl) (by rfl) (by first | rfl | kernel_rfl)) ?_
          refine al_opd rfl rfl rfl (ao_alloca (zv48) (by rfl)) ?_
          first | refine al_opd rfl rfl rfl ((ao_storeL Tryd.sizeOf48 (by rfl) (by rfl) (by exact HLp) (by first | rfl | exact wallsL _ _ (by omega) | exact roomL _ _ (by omega) | exact roomLI _ _ (by omega) | (simp; (first | done | fail))) (by first | rfl | exact wallsL _ _ (by omega) | exact roomL _ _ (by omega) | exact roomLI _ _ (by omega) | (simp; (first | done | fail))) (by first | rfl | exact wallsL _ _ (by omega) | exact roomL _ _ (by omega) | exact roomLI _ _ (by omega) | (simp; (first | done | fail)))).to (SetR.eq (by exact SRp))) ?_ | refine al_opd rfl rfl rfl ((ao_storeP (ds := [.int _ _, .int _ _]) Tryd.sizeOf48 (by rfl) (by rfl) (by exact HLp) (by first | rfl | exact wallsL _ _ (by omega) | exact roomL _ _ (by omega) | exact roomLI _ _ (by omega) | (simp; (first | done | fail))) (by first | rfl | exact wallsL _ _ (by omega) | exact roomL _ _ (by omega) | exact roomLI _ _ (by omega) | (simp; (first | done | fail))) (by exact LTp)).to (SetR.eq (by exact SRp))) ?_
          refine al_nilT ?_
          refine aw_seq ?_
          refine aw_region ?_
          first | refine al_opd rfl rfl rfl (ao_mv (v := .func _ _ _) rfl) ?_ | refine al_opd rfl rfl rfl (ao_mv (v := .func (.func fnum) fs cs) rfl) ?_
          refine al_opd rfl rfl rfl (ao_loada Tryd.isAgg48 Tryd.sizeOf48 rfl (by exact HLp) (by rfl) (by first | rfl | exact wallsL _ _ (by omega) | exact roomL _ _ (by omega) | exact roomLI _ _ (by omega) | (simp; (first | done | fail)))) ?_
          refine al_opd rfl rfl rfl (ao_callv hfn (by rfl) (by rfl) (hcall _ x y (by exact SMp) (by omega) (by omega))) ?_
          refine al_nilT ?_
          refine aw_cond rfl (fun h3_ => ?_) (fun h3_ => ?_)
          · try simp only [nrm] at h3_
            refine aw_region ?_
            first | refine al_opd rfl rfl rfl (ao_mv (v := .slice _ _ _) rfl) ?_ | refine al_opd rfl rfl rfl (ao_mv (v := .func (.func fnum) fs cs) rfl) ?_
            refine al_opd rfl rfl rfl (ao_loada Tryd.isAgg48 Tryd.sizeOf48 rfl (by exact HLp) (by rfl) (by first | rfl | exact wallsL _ _ (by omega) | exact roomL _ _ (by omega) | exact roomLI _ _ (by omega) | (simp; (first | done | fail)))) ?_
            refine al_opd rfl rfl rfl (ao_lit1 (v := .agg _) Tryd.underlying37 Tryd.sizeOf48 Tryd.zeroValue48 (by rfl) (by rfl) rfl rfl (by rfl) (by first | rfl | exact wallsL _ _ (by omega) | exact roomL _ _ (by omega) | exact roomLI _ _ (by omega) | (simp; (first | done | fail)))) ?_
            refine al_opd rfl rfl rfl (ao_appC Tryd.underlying37 ⟨_, Tryd.underlying37⟩ elem48 (by rfl) (by rfl) (by exact HLp) (by (rw [fl_len spot_len, ← hn]; omega)) (by exact SCp) (by first | rfl | simp [isOne]) (by exact BDp) (by exact BDp)) ?_
            first | refine al_opd rfl rfl rfl (ao_as (v := .slice _ _ _) rfl) ?_ | refine al_opd rfl rfl rfl (ao_as (v := .func (.func fnum) fs cs) rfl) ?_
            refine al_nilB ?_
            refine thenA_n ?_
            refine aw_region ?_
            first | refine al_opd rfl rfl rfl ((ao_add rfl rfl).val (nw_i8 BDp BDp)) ?_ | refine al_opd rfl rfl rfl (ao_add rfl rfl) ?_
            refine al_opd rfl rfl rfl (ao_mv (v := .int _ _) rfl) ?_
            refine al_nilT ?_
            refine ⟨_, ?_, _, rfl, x + 1, n + 1, _, _, by omega, rfl, by exact SMp, by exact HLp, ?_, ?_, by rw [filter_yes h3_, fl_snoc]; exact (by exact HLp), by rw [filter_yes h3_, List.length_append, ← hn]; rfl, Nat.le_succ _, rfl, rfl, by rfl, rfl, rfl, rfl, rfl, rfl⟩
            · omega
            · exact LNp
            · exact LNp
          · try simp only [nrm] at h3_
            refine aw_skipB ?_
            refine thenA_n ?_
            refine aw_region ?_
            first | refine al_opd rfl rfl rfl ((ao_add rfl rfl).val (nw_i8 BDp BDp)) ?_ | refine al_opd rfl rfl rfl (ao_add rfl rfl) ?_
            refine al_opd rfl rfl rfl (ao_mv (v := .int _ _) rfl) ?_
            refine al_nilT ?_
            refine ⟨_, ?_, _, rfl, x + 1, n, pb, c, by omega, rfl, by exact SMp, by exact HLp, ?_, ?_, by rw [filter_no (by simpa using h3_)]; exact (by exact HLp), by rw [filter_no (by simpa using h3_)]; exact hn, hc, rfl, rfl, by rfl, rfl, rfl, rfl, rfl, rfl⟩
            · omega
            · exact LNp
            · exact LNp
        · try simp only [nrm] at h2_
          refine aw_exit ?_
          refine thenA_x ?_
          refine thenA_x ?_
          refine blockA_hit ?_
          refine blockA_n ?_
          refine thenA_n ?_
          refine aw_region ?_
          first | refine al_opd rfl rfl rfl ((ao_add rfl rfl).val (nw_i8 BDp BDp)) ?_ | refine al_opd rfl rfl rfl (ao_add rfl rfl) ?_
          refine al_opd rfl rfl rfl (ao_mv (v := .int _ _) rfl) ?_
          refine al_nilT ?_
          exact ⟨_, by omega, _, rfl, y + 1, n, pb, c, by omega, rfl, hG, hbx, hpb, hlt, by rw [cellsTo_row]; rw [show x = r.w.toNat by omega] at hkb; exact hkb, by rw [cellsTo_row, hn, show x = r.w.toNat by omega], hc, rfl, by rfl, rfl, rfl, rfl⟩
    · try simp only [nrm] at h1_
      refine aw_exit ?_
      refine thenA_x ?_
      refine thenA_x ?_
      refine blockA_hit ?_
      refine thenA_n ?_
      refine aw_seq ?_
      refine aw_region ?_
      first | refine al_opd rfl rfl rfl (ao_mv (v := .slice _ _ _) rfl) ?_ | refine al_opd rfl rfl rfl (ao_mv (v := .func (.func fnum) fs cs) rfl) ?_
      first | refine al_opd rfl rfl rfl (ao_as (v := .slice _ _ _) rfl) ?_ | refine al_opd rfl rfl rfl (ao_as (v := .func (.func fnum) fs cs) rfl) ?_
      refine al_nilT ?_
      refine aw_ret ?_
      refine ends1 rfl (rv_tmp (v := .slice _ _ _) rfl) ?_
      rw [show y = r.h.toNat by omega] at hkb hn
      subst hn
      exact ⟨hG, pb, by omega, hkb, fun ρ h => vr_sl h (by first | (unfold freeL allCells; omega) | (unfold allCells; omega)) (by first | (unfold freeL allCells; omega) | (unfold allCells; omega))⟩

-- spec.l01All
theorem l01All_c {r : Room} {pb0 : Nat} {H : AHeap} (hp0 : H.blk pb0 = some (.cells (roomC r) 1)) (hr : okRoom r) (hw : wfRoom r) : ACd Tryd.prog 50 [.pointer (some ⟨pb0, 0, none⟩)] H (.slice (some ⟨H.next, 0, none⟩) (freeL r).length ((freeL r).length + 1)) (H.push (.cells (fl spot (freeL r)) 2)) := by
  have ⟨r1, r2, r3, r4, r5⟩ := hr
  have hltp := AHeap.lt hp0
  refine ac_gcs (vrl_fl spot_plain _) (ac_body Tryd.func50 rfl Tryd.ntmps50 rfl ?_)
  refine aw_seq ?_
  refine aw_region ?_
  refine al_opd rfl rfl rfl (ao_as (v := .slice _ _ _) rfl) ?_
  refine al_nilT ?_
  refine aw_seq ?_
  refine aw_region ?_
  refine al_opd rfl rfl rfl (ao_lit0 Tryd.underlying37 Tryd.sizeOf48 Tryd.zeroValue48 (by rfl) (by rfl) rfl) ?_
  refine al_opd rfl rfl rfl (ao_as (v := .slice _ _ _) rfl) ?_
  refine al_nilT ?_
  refine aw_seq ?_
  refine aw_seq ?_
  refine aw_region ?_
  refine al_opd rfl rfl rfl (ao_as (v := .int _ _) rfl) ?_
  refine al_nilT ?_
  refine aw_block ?_
  refine aw_loop (fun (gk : Nat) (fr : AFr) (G : AHeap) => ∃ get : Nat → Value, fr = ⟨35, get⟩ ∧ (∃ (y n pb c : Nat), (y : Int) ≤ r.h ∧ gk = r.h.toNat - y ∧ Same H.next H G ∧  H.next ≤ pb ∧ pb < G.next ∧ G.blk pb = some (.cells (fl spot ((cellsTo r.w.toNat y 0).filter (freeB r))) 2) ∧ n = ((cellsTo r.w.toNat y 0).filter (freeB r)).length ∧ n ≤ c ∧ get 3 = .slice (some ⟨pb, 0, none⟩) n c ∧ get 4 = .int .i8 y ∧ get 0 = .pointer (some ⟨pb0, 0, none⟩))) (r.h.toNat) ⟨_, rfl, ?_⟩ ?_
  · refine ⟨0, 0, _, _, by omega, rfl, by exact SMp, ?_, ?_, by exact HLp, rfl, Nat.le_refl _, rfl, rfl, rfl⟩ <;> exact LNp
  · rintro gk fr G ⟨get, rfl, y, n, pb, c, hy, rfl, hG, hpb, hlt, hkb, hn, hc, gs, gy, k0⟩
    have hp : G.blk pb0 = some (.cells (roomC r) 1) := (hG _ hltp).trans hp0
    refine aw_slot (d := 3) (v := .slice (some ⟨pb, 0, none⟩) n c) (by first | assumption | rfl) ?_
    refine aw_slot (d := 4) (v := .int .i8 y) (by first | assumption | rfl) ?_
    refine aw_slot (d := 0) (v := .pointer (some ⟨pb0, 0, none⟩)) (by first | assumption | rfl) ?_
    refine aw_seq ?_
    refine aw_seq ?_
    refine aw_region ?_
    refine al_opd rfl rfl rfl (ao_mv (v := .int _ _) rfl) ?_
    refine al_opd rfl rfl rfl (ao_mv (v := .pointer _) rfl) ?_
    refine al_opd rfl rfl rfl (ao_nilCheck rfl) ?_
    refine al_opd rfl rfl rfl (ao_fieldAddr fo_28_1 rfl) ?_
    refine al_opd rfl rfl rfl (ao_load (v := .int _ _) Tryd.isAgg24 (by rfl) (by exact HLp) (by rfl) (by first | rfl | exact wallsL _ _ (by omega) | exact roomL _ _ (by omega) | exact roomLI _ _ (by omega) | (simp; (first | done | fail)))) ?_
    refine al_opd rfl rfl rfl (ao_lss rfl rfl) ?_
    refine al_nilT ?_
    refine aw_cond rfl (fun h1_ => ?_) (fun h1_ => ?_)
    · try simp only [nrm] at h1_
      refine aw_skipT ?_
      refine aw_seq ?_
      refine aw_block ?_
      refine aw_seq ?_
      refine aw_region ?_
      refine al_opd rfl rfl rfl (ao_as (v := .int _ _) rfl) ?_
      refine al_nilT ?_
      refine aw_block ?_
      refine aw_loop (fun (gk : Nat) (fr : AFr) (G : AHeap) => ∃ get : Nat → Value, fr = ⟨35, get⟩ ∧ (∃ (x n pb c : Nat), (x : Int) ≤ r.w ∧ gk = r.w.toNat - x ∧ Same H.next H G ∧  H.next ≤ pb ∧ pb < G.next ∧ G.blk pb = some (.cells (fl spot ((cellsTo r.w.toNat y x).filter (freeB r))) 2) ∧ n = ((cellsTo r.w.toNat y x).filter (freeB r)).length ∧ n ≤ c ∧ get 3 = .slice (some ⟨pb, 0, none⟩) n c ∧ get 4 = .int .i8 y ∧ get 5 = .int .i8 x ∧ get 0 = .pointer (some ⟨pb0, 0, none⟩))) (r.w.toNat) ⟨_, rfl, ?_⟩ ?_
      · exact ⟨0, n, pb, c, by omega, rfl, hG, hpb, hlt, hkb, hn, hc, rfl, rfl, rfl, rfl⟩
      · rintro gk fr G ⟨get, rfl, x, n, pb, c, hx, rfl, hG, hpb, hlt, hkb, hn, hc, gs, gy, gx, k0⟩
        have hlen := filter_lenTo r.w.toNat y x (freeB r) (by omega) (by omega) (by omega)
        have hp : G.blk pb0 = some (.cells (roomC r) 1) := (hG _ hltp).trans hp0
        refine aw_slot (d := 3) (v := .slice (some ⟨pb, 0, none⟩) n c) (by first | assumption | rfl) ?_
        refine aw_slot (d := 4) (v := .int .i8 y) (by first | assumption | rfl) ?_
        refine aw_slot (d := 5) (v := .int .i8 x) (by first | assumption | rfl) ?_
        refine aw_slot (d := 0) (v := .pointer (some ⟨pb0, 0, none⟩)) (by first | assumption | rfl) ?_
        refine aw_seq ?_
        refine aw_seq ?_
        refine aw_region ?_
        refine al_opd rfl rfl rfl (ao_mv (v := .int _ _) rfl) ?_
        refine al_opd rfl rfl rfl (ao_mv (v := .pointer _) rfl) ?_
        refine al_opd rfl rfl rfl (ao_nilCheck rfl) ?_
        refine al_opd rfl rfl rfl (ao_fieldAddr fo_28_0 rfl) ?_
        refine al_opd rfl rfl rfl (ao_load (v := .int _ _) Tryd.isAgg24 (by rfl) (by exact HLp) (by rfl) (by first | rfl | exact wallsL _ _ (by omega) | exact roomL _ _ (by omega) | exact roomLI _ _ (by omega) | (simp; (first | done | fail)))) ?_
        refine al_opd rfl rfl rfl (ao_lss rfl rfl) ?_
        refine al_nilT ?_
        refine aw_cond rfl (fun h2_ => ?_) (fun h2_ => ?_)
        · try simp only [nrm] at h2_
          refine aw_skipT ?_
          refine aw_seq ?_
          refine aw_block ?_
          refine aw_seq ?_
          refine aw_region ?_
          refine al_opd rfl rfl rfl (ao_mv (v := .pointer _) rfl) ?_
          refine al_opd rfl rfl rfl (ao_mv (v := .int _ _) rfl) ?_
          refine al_opd rfl rfl rfl (ao_mv (v := .int _ _) rfl) ?_
          refine al_opd rfl rfl rfl (ao_build (A := #[.int .i8 (x : Int), .int .i8 (y : Int)]) Tryd.zeroValue48 (by rfl) (by first | rfl | kernel_rfl) (by rfl) (by first | rfl | kernel_rfl)) ?_
          refine al_opd rfl rfl rfl (ao_calld (l01Free_c (r := r) (s := ⟨(x : Int), (y : Int)⟩) (b := freeB r ⟨(x : Int), (y : Int)⟩) (by exact HLp) hr hw ⟨⟨by show (-128 : Int) ≤ (x : Int); omega, by show (x : Int) ≤ 127; omega⟩, ⟨by show (-128 : Int) ≤ (y : Int); omega, by show (y : Int) ≤ 127; omega⟩⟩ (freeB_iff r _)) Tryd.call46 rfl rfl) ?_
          refine al_nilT ?_
          refine aw_cond rfl (fun h3_ => ?_) (fun h3_ => ?_)
          · try simp only [nrm] at h3_
            refine aw_region ?_
            refine al_opd rfl rfl rfl (ao_mv (v := .slice _ _ _) rfl) ?_
            refine al_opd rfl rfl rfl (ao_mv (v := .int _ _) rfl) ?_
            refine al_opd rfl rfl rfl (ao_mv (v := .int _ _) rfl) ?_
            refine al_opd rfl rfl rfl (ao_build (A := #[.int .i8 (x : Int), .int .i8 (y : Int)]) Tryd.zeroValue48 (by rfl) (by first | rfl | kernel_rfl) (by rfl) (by first | rfl | kernel_rfl)) ?_
            refine al_opd rfl rfl rfl (ao_lit1 (v := .agg _) Tryd.underlying37 Tryd.sizeOf48 Tryd.zeroValue48 (by rfl) (by rfl) rfl rfl (by rfl) (by first | rfl | exact wallsL _ _ (by omega) | exact roomL _ _ (by omega) | exact roomLI _ _ (by omega) | (simp; (first | done | fail)))) ?_
            refine al_opd rfl rfl rfl (ao_appC Tryd.underlying37 ⟨_, Tryd.underlying37⟩ elem48 (by rfl) (by rfl) (by exact HLp) (by (rw [fl_len spot_len, ← hn]; omega)) (by exact SCp) (by first | rfl | simp [isOne]) (by exact BDp) (by exact BDp)) ?_
            refine al_opd rfl rfl rfl (ao_as (v := .slice _ _ _) rfl) ?_
            refine al_nilB ?_
            refine thenA_n ?_
            refine aw_region ?_
            refine al_opd rfl rfl rfl (ao_mv (v := .int _ _) rfl) ?_
            first | refine al_opd rfl rfl rfl ((ao_add rfl rfl).val (nw_i8 BDp BDp)) ?_ | refine al_opd rfl rfl rfl (ao_add rfl rfl) ?_
            refine al_opd rfl rfl rfl (ao_as (v := .int _ _) rfl) ?_
            refine al_nilT ?_
            refine ⟨_, ?_, _, rfl, x + 1, n + 1, _, _, by omega, rfl, by exact SMp, ?_, ?_, by rw [filter_yes h3_, fl_snoc]; exact (by exact HLp), by rw [filter_yes h3_, List.length_append, ← hn]; rfl, Nat.le_succ _, rfl, rfl, by rfl, rfl⟩
            · omega
            · exact LNp
            · exact LNp
          · try simp only [nrm] at h3_
            refine aw_skipB ?_
            refine thenA_n ?_
            refine aw_region ?_
            refine al_opd rfl rfl rfl (ao_mv (v := .int _ _) rfl) ?_
            first | refine al_opd rfl rfl rfl ((ao_add rfl rfl).val (nw_i8 BDp BDp)) ?_ | refine al_opd rfl rfl rfl (ao_add rfl rfl) ?_
            refine al_opd rfl rfl rfl (ao_as (v := .int _ _) rfl) ?_
            refine al_nilT ?_
            refine ⟨_, ?_, _, rfl, x + 1, n, pb, c, by omega, rfl, by exact SMp, ?_, ?_, by rw [filter_no (by simpa using h3_)]; exact (by exact HLp), by rw [filter_no (by simpa using h3_)]; exact hn, hc, rfl, rfl, by rfl, rfl⟩
            · omega
            · exact LNp
            · exact LNp
        · try simp only [nrm] at h2_
          refine aw_exit ?_
          refine thenA_x ?_
          refine thenA_x ?_
          refine blockA_hit ?_
          refine blockA_n ?_
          refine thenA_n ?_
          refine aw_region ?_
          refine al_opd rfl rfl rfl (ao_mv (v := .int _ _) rfl) ?_
          first | refine al_opd rfl rfl rfl ((ao_add rfl rfl).val (nw_i8 BDp BDp)) ?_ | refine al_opd rfl rfl rfl (ao_add rfl rfl) ?_
          refine al_opd rfl rfl rfl (ao_as (v := .int _ _) rfl) ?_
          refine al_nilT ?_
          exact ⟨_, by omega, _, rfl, y + 1, n, pb, c, by omega, rfl, hG, hpb, hlt, by rw [cellsTo_row]; rw [show x = r.w.toNat by omega] at hkb; exact hkb, by rw [cellsTo_row, hn, show x = r.w.toNat by omega], hc, rfl, by rfl, rfl⟩
    · try simp only [nrm] at h1_
      refine aw_exit ?_
      refine thenA_x ?_
      refine thenA_x ?_
      refine blockA_hit ?_
      refine thenA_n ?_
      refine aw_seq ?_
      refine aw_region ?_
      refine al_opd rfl rfl rfl (ao_mv (v := .slice _ _ _) rfl) ?_
      refine al_opd rfl rfl rfl (ao_as (v := .slice _ _ _) rfl) ?_
      refine al_nilT ?_
      refine aw_ret ?_
      refine ends1 rfl (rv_tmp (v := .slice _ _ _) rfl) ?_
      rw [show y = r.h.toNat by omega] at hkb hn
      subst hn
      exact ⟨hG, pb, by omega, hkb, fun ρ h => vr_sl h (by first | (unfold freeL allCells; omega) | (unfold allCells; omega)) (by first | (unfold freeL allCells; omega) | (unfold allCells; omega))⟩

-- (impl.Room).free
theorem implFreeL_c {r : Room} {H : AHeap} (hr : okRoom r) (hw : wfRoom r) : ACd Tryd.prog 49 [.agg (roomC r).toArray] H (.slice (some ⟨H.next, 0, none⟩) (freeL r).length ((freeL r).length + 1)) (H.push (.cells (fl spot (freeL r)) 2)) := by
  have ⟨r1, r2, r3, r4, r5⟩ := hr
  refine ac_gcs (vrl_fl spot_plain _) (ac_body Tryd.func49 rfl Tryd.ntmps49 rfl ?_)
  refine aw_seq ?_
  refine aw_region ?_
  refine al_opd rfl rfl rfl (ao_boxa (by rfl)) ?_
  refine al_opd rfl rfl rfl (ao_as (v := .slice _ _ _) rfl) ?_
  refine al_nilT ?_
  refine aw_seq ?_
  refine aw_region ?_
  refine al_opd rfl rfl rfl (ao_loada Tryd.isAgg28 Tryd.sizeOf28 rfl (by exact HLp) (by rfl) (by exact RFp)) ?_
  refine al_opd rfl rfl rfl (ao_loada Tryd.isAgg28 Tryd.sizeOf28 rfl (by exact HLp) (by rfl) (by exact RFp)) ?_
  refine al_opd rfl rfl rfl (ao_makeFunc rfl rfl) ?_
  refine al_opd rfl rfl rfl (ao_calld (cells_c (fnum := 41) (fs := #[.agg (roomC r).toArray]) (cs := #[]) (r := r) (p := freeB r) Tryd.call41 (fun G x y _ hx hy => isFree_c (r := r) (s := ⟨(x : Int), (y : Int)⟩) hw ⟨⟨by show (-128 : Int) ≤ (x : Int); omega, by show (x : Int) ≤ 127; omega⟩, ⟨by show (-128 : Int) ≤ (y : Int); omega, by show (y : Int) ≤ 127; omega⟩⟩ (freeB_iff r _)) (by omega)) Tryd.call42 rfl rfl) ?_
  refine al_opd rfl rfl rfl (ao_as (v := .slice _ _ _) rfl) ?_
  refine al_nilT ?_
  refine aw_ret ?_
  refine ends1 rfl (rv_tmp (v := .slice _ _ _) rfl) ?_
  exact ⟨by exact SMp, _, by exact LEp, by exact HLp, fun ρ h => vr_sl h (by unfold freeL; omega) (by unfold freeL; omega)⟩

-- spec.FreeCells
theorem specFree1_c {r : Room} {H : AHeap} (hw : wfRoom r) (hr : okRoom r) : ACd Tryd.prog 13 [.agg (roomC r).toArray] H (.tuple #[.slice (some ⟨H.next, 0, none⟩) (freeL r).length ((freeL r).length + 1), .int .i64 0]) (H.push (.cells (fl spot (freeL r)) 2)) := by
  refine ac_gcs (vrl_fl spot_plain _) (ac_body Tryd.func13 rfl Tryd.ntmps13 rfl ?_)
  refine aw_seq ?_
  refine aw_region ?_
  refine al_opd rfl rfl rfl (ao_boxa (by rfl)) ?_
  refine al_opd rfl rfl rfl (ao_as (v := .slice _ _ _) rfl) ?_
  refine al_opd rfl rfl rfl (ao_as (v := .int _ _) rfl) ?_
  refine al_nilT ?_
  refine aw_seq ?_
  refine aw_seq ?_
  refine aw_region ?_
  refine al_opd rfl rfl rfl (ao_calld (l01Ok_c (r := r) (b := true) (by exact HLp) hw (yes hr)) Tryd.call44 rfl rfl) ?_
  refine al_opd rfl rfl rfl (ao_not rfl) ?_
  refine al_nilT ?_
  refine aw_cond rfl (fun h1_ => ?_) (fun h1_ => ?_)
  · try simp only [nrm] at h1_
    first | done | omega | (exfalso; revert h1_; simp; (first | done | omega))
  try simp only [nrm] at h1_
  refine aw_skipT ?_
  refine aw_seq ?_
  refine aw_region ?_
  refine al_opd rfl rfl rfl (ao_calld (l01All_c (r := r) (by exact HLp) hr hw) Tryd.call50 rfl rfl) ?_
  refine al_opd rfl rfl rfl (ao_as (v := .slice _ _ _) rfl) ?_
  refine al_opd rfl rfl rfl (ao_as (v := .int _ _) rfl) ?_
  refine al_nilT ?_
  refine aw_ret ?_
  refine ends2 rfl (rv_tmp (v := .slice _ _ _) rfl) (rv_tmp (v := .int _ _) rfl) ?_
  exact ⟨by exact SMp, _, by exact LEp, by exact HLp, fun ρ h => vr_tup2 (vr_sl h (by omega) (by omega)) (.int _ _)⟩

-- impl.FreeCells
theorem implFree1_c {r : Room} {H : AHeap} (hw : wfRoom r) (hr : okRoom r) : ACd Tryd.prog 12 [.agg (roomC r).toArray] H (.tuple #[.slice (some ⟨H.next, 0, none⟩) (freeL r).length ((freeL r).length + 1), .int .i64 0]) (H.push (.cells (fl spot (freeL r)) 2)) := by
  refine ac_gcs (vrl_fl spot_plain _) (ac_body Tryd.func12 rfl Tryd.ntmps12 rfl ?_)
  refine aw_seq ?_
  refine aw_region ?_
  refine al_opd rfl rfl rfl (ao_boxa (by rfl)) ?_
  refine al_opd rfl rfl rfl (ao_as (v := .slice _ _ _) rfl) ?_
  refine al_opd rfl rfl rfl (ao_as (v := .int _ _) rfl) ?_
  refine al_nilT ?_
  refine aw_seq ?_
  refine aw_seq ?_
  refine aw_region ?_
  refine al_opd rfl rfl rfl (ao_loada Tryd.isAgg28 Tryd.sizeOf28 rfl (by exact HLp) (by rfl) (by exact RFp)) ?_
  refine al_opd rfl rfl rfl (ao_calld (implValid_c (r := r) (b := true) hw (yes hr)) Tryd.call17 rfl rfl) ?_
  refine al_opd rfl rfl rfl (ao_not rfl) ?_
  refine al_nilT ?_
  refine aw_cond rfl (fun h1_ => ?_) (fun h1_ => ?_)
  · try simp only [nrm] at h1_
    first | done | omega | (exfalso; revert h1_; simp; (first | done | omega))
  try simp only [nrm] at h1_
  refine aw_skipT ?_
  refine aw_seq ?_
  refine aw_region ?_
  refine al_opd rfl rfl rfl (ao_loada Tryd.isAgg28 Tryd.sizeOf28 rfl (by exact HLp) (by rfl) (by exact RFp)) ?_
  refine al_opd rfl rfl rfl (ao_calld (implFreeL_c (r := r) hr hw) Tryd.call49 rfl rfl) ?_
  refine al_opd rfl rfl rfl (ao_as (v := .slice _ _ _) rfl) ?_
  refine al_opd rfl rfl rfl (ao_as (v := .int _ _) rfl) ?_
  refine al_nilT ?_
  refine aw_ret ?_
  refine ends2 rfl (rv_tmp (v := .slice _ _ _) rfl) (rv_tmp (v := .int _ _) rfl) ?_
  exact ⟨by exact SMp, _, by exact LEp, by exact HLp, fun ρ h => vr_tup2 (vr_sl h (by omega) (by omega)) (.int _ _)⟩

-- impl.CountFree
theorem implCnt1_c {r : Room} {H : AHeap} (hw : wfRoom r) (hr : okRoom r) : ACd Tryd.prog 14 [.agg (roomC r).toArray] H (.tuple #[.int .i64 (freeL r).length, .int .i64 0]) (H) := by
  refine ac_gc0 (fun β => VR.plainT β (by first | rfl | simp [plainT, plainV, plain1])) (ac_body Tryd.func14 rfl Tryd.ntmps14 rfl ?_)
  refine aw_seq ?_
  refine aw_region ?_
  refine al_opd rfl rfl rfl (ao_boxa (by rfl)) ?_
  refine al_opd rfl rfl rfl (ao_as (v := .int _ _) rfl) ?_
  refine al_opd rfl rfl rfl (ao_as (v := .int _ _) rfl) ?_
  refine al_nilT ?_
  refine aw_seq ?_
  refine aw_region ?_
  refine al_opd rfl rfl rfl (ao_loada Tryd.isAgg28 Tryd.sizeOf28 rfl (by exact HLp) (by rfl) (by exact RFp)) ?_
  refine al_opd rfl rfl rfl (ao_calld (implFree1_c (r := r) hw hr) Tryd.call12 rfl rfl) ?_
  refine al_opd rfl rfl rfl (ao_mv (v := .tuple _) rfl) ?_
  refine al_opd rfl rfl rfl (ao_extract (v := .slice _ _ _) rfl rfl) ?_
  refine al_opd rfl rfl rfl (ao_extract (v := .int _ _) rfl rfl) ?_
  refine al_opd rfl rfl rfl (ao_as (v := .slice _ _ _) rfl) ?_
  refine al_opd rfl rfl rfl (ao_as (v := .int _ _) rfl) ?_
  refine al_nilT ?_
  refine aw_seq ?_
  refine aw_region ?_
  refine al_opd rfl rfl rfl (ao_mv (v := .slice _ _ _) rfl) ?_
  refine al_opd rfl rfl rfl (ao_calld (sizeSpot_c (l := freeL r) (Sl.full spot_len (by exact HLp) rfl rfl rfl)) Tryd.call51 rfl rfl) ?_
  refine al_opd rfl rfl rfl (ao_mv (v := .int _ _) rfl) ?_
  refine al_opd rfl rfl rfl (ao_as (v := .int _ _) rfl) ?_
  refine al_opd rfl rfl rfl (ao_as (v := .int _ _) rfl) ?_
  refine al_nilT ?_
  refine aw_ret ?_
  refine ends2 rfl (rv_tmp (v := .int _ _) rfl) (rv_tmp (v := .int _ _) rfl) ?_
  exact ⟨by first | rfl | (simp [*]; (first | done | fail)), by exact SMp⟩

end Go.Proofs.YtmmmjdbknepjgaaDoor
