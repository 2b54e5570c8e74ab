/- Contracts of the program's functions over abstract heaps. -/
import Derived.Test.YtlcfmbaeaieomaaDoorTab
namespace Go.Proofs.YtlcfmbaeaieomaaDoor
open Go Go.AW Go.Proofs
set_option linter.unusedVariables false
set_option linter.unusedSimpArgs false
set_option maxRecDepth 100000
set_option maxHeartbeats 2000000

-- impl.NextSpot
theorem implNext_c {s : Spot} {k : Int} {H : AHeap} : ACd Tryd.prog 30 [.agg #[.int .i8 s.x, .int .i8 s.y], .int .i64 k] H (.agg #[.int .i8 (nextSpot s k).x, .int .i8 (nextSpot s k).y]) (H) := by
  refine ac_gc0 (fun β => VR.plainT β (by first | rfl | simp [plainT, plainV, plain1])) (ac_body Tryd.func30 rfl Tryd.ntmps30 rfl ?_)
  refine aw_seq ?_
  refine aw_region ?_
  refine al_opd rfl rfl rfl (ao_boxa (by rfl)) ?_
  refine al_opd rfl rfl rfl (ao_alloca (zv37) (by rfl)) ?_
  refine al_nilT ?_
  refine aw_seq ?_
  refine aw_seq ?_
  refine aw_region ?_
  refine al_opd rfl rfl rfl (ao_mv (v := .int _ _) rfl) ?_
  refine al_nilT ?_
  refine aw_block ?_
  refine aw_seq ?_
  refine aw_region ?_
  refine al_opd rfl rfl rfl (ao_eql rfl rfl) ?_
  refine al_opd rfl rfl rfl (ao_as (v := .bool _) rfl) ?_
  refine al_nilT ?_
  refine aw_cond rfl (fun h1_ => ?_) (fun h1_ => ?_)
  · try simp only [nrm] at h1_
    refine aw_region ?_
    refine al_opd rfl rfl rfl (ao_fieldAddr fo_37_1 rfl) ?_
    refine al_opd rfl rfl rfl (ao_load (v := .int _ _) Tryd.isAgg35 (by rfl) (by exact HLp) (by rfl) (by exact RFp)) ?_
    first | refine al_opd rfl rfl rfl ((ao_sub rfl rfl).val (nw_i8 BDp BDp)) ?_ | refine al_opd rfl rfl rfl (ao_sub rfl rfl) ?_
    refine al_opd rfl rfl rfl (ao_fieldAddr fo_37_1 rfl) ?_
    refine al_opd rfl rfl rfl ((ao_store1 (v := .int _ _) Tryd.sizeOf35 (by rfl) (by rfl) (by exact HLp) (by rfl) (by exact LTp)).to (SetR.eq (by exact SRp))) ?_
    refine al_nilB ?_
    refine thenA_n ?_
    refine aw_seq ?_
    refine aw_region ?_
    refine al_opd rfl rfl rfl (ao_loada Tryd.isAgg37 Tryd.sizeOf37 rfl (by exact HLp) (by rfl) (by exact RFp)) ?_
    first | refine al_opd rfl rfl rfl ((ao_storeL Tryd.sizeOf37 (by rfl) (by rfl) (by exact HLp) (by exact RFp) (by exact RFp) (by exact RFp)).to (SetR.eq (by exact SRp))) ?_ | refine al_opd rfl rfl rfl ((ao_storeP (ds := [.int _ _, .int _ _]) Tryd.sizeOf37 (by rfl) (by rfl) (by exact HLp) (by exact RFp) (by exact RFp) (by exact LTp)).to (SetR.eq (by exact SRp))) ?_
    refine al_nilT ?_
    refine aw_ret ?_
    refine ends1 rfl (rv_cella Tryd.isAgg37 Tryd.sizeOf37 rfl (by exact HLp) (by rfl) (by exact RFp)) ?_
    exact ⟨by simp [nextSpot, *], by exact SMp⟩
  · try simp only [nrm] at h1_
    refine aw_seq ?_
    refine aw_region ?_
    refine al_opd rfl rfl rfl (ao_eql rfl rfl) ?_
    refine al_opd rfl rfl rfl (ao_as (v := .bool _) rfl) ?_
    refine al_nilT ?_
    refine aw_cond rfl (fun h2_ => ?_) (fun h2_ => ?_)
    · try simp only [nrm] at h2_
      refine aw_region ?_
      refine al_opd rfl rfl rfl (ao_fieldAddr fo_37_0 rfl) ?_
      refine al_opd rfl rfl rfl (ao_load (v := .int _ _) Tryd.isAgg35 (by rfl) (by exact HLp) (by rfl) (by exact RFp)) ?_
      first | refine al_opd rfl rfl rfl ((ao_add rfl rfl).val (nw_i8 BDp BDp)) ?_ | refine al_opd rfl rfl rfl (ao_add rfl rfl) ?_
      refine al_opd rfl rfl rfl (ao_fieldAddr fo_37_0 rfl) ?_
      refine al_opd rfl rfl rfl ((ao_store1 (v := .int _ _) Tryd.sizeOf35 (by rfl) (by rfl) (by exact HLp) (by rfl) (by exact LTp)).to (SetR.eq (by exact SRp))) ?_
      refine al_nilB ?_
      refine thenA_n ?_
      refine aw_seq ?_
      refine aw_region ?_
      refine al_opd rfl rfl rfl (ao_loada Tryd.isAgg37 Tryd.sizeOf37 rfl (by exact HLp) (by rfl) (by exact RFp)) ?_
      first | refine al_opd rfl rfl rfl ((ao_storeL Tryd.sizeOf37 (by rfl) (by rfl) (by exact HLp) (by exact RFp) (by exact RFp) (by exact RFp)).to (SetR.eq (by exact SRp))) ?_ | refine al_opd rfl rfl rfl ((ao_storeP (ds := [.int _ _, .int _ _]) Tryd.sizeOf37 (by rfl) (by rfl) (by exact HLp) (by exact RFp) (by exact RFp) (by exact LTp)).to (SetR.eq (by exact SRp))) ?_
      refine al_nilT ?_
      refine aw_ret ?_
      refine ends1 rfl (rv_cella Tryd.isAgg37 Tryd.sizeOf37 rfl (by exact HLp) (by rfl) (by exact RFp)) ?_
      exact ⟨by simp [nextSpot, *], by exact SMp⟩
    · try simp only [nrm] at h2_
      refine aw_seq ?_
      refine aw_region ?_
      refine al_opd rfl rfl rfl (ao_eql rfl rfl) ?_
      refine al_opd rfl rfl rfl (ao_as (v := .bool _) rfl) ?_
      refine al_nilT ?_
      refine aw_cond rfl (fun h3_ => ?_) (fun h3_ => ?_)
      · try simp only [nrm] at h3_
        refine aw_region ?_
        refine al_opd rfl rfl rfl (ao_fieldAddr fo_37_1 rfl) ?_
        refine al_opd rfl rfl rfl (ao_load (v := .int _ _) Tryd.isAgg35 (by rfl) (by exact HLp) (by rfl) (by exact RFp)) ?_
        first | refine al_opd rfl rfl rfl ((ao_add rfl rfl).val (nw_i8 BDp BDp)) ?_ | refine al_opd rfl rfl rfl (ao_add rfl rfl) ?_
        refine al_opd rfl rfl rfl (ao_fieldAddr fo_37_1 rfl) ?_
        refine al_opd rfl rfl rfl ((ao_store1 (v := .int _ _) Tryd.sizeOf35 (by rfl) (by rfl) (by exact HLp) (by rfl) (by exact LTp)).to (SetR.eq (by exact SRp))) ?_
        refine al_nilB ?_
        refine thenA_n ?_
        refine aw_seq ?_
        refine aw_region ?_
        refine al_opd rfl rfl rfl (ao_loada Tryd.isAgg37 Tryd.sizeOf37 rfl (by exact HLp) (by rfl) (by exact RFp)) ?_
        first | refine al_opd rfl rfl rfl ((ao_storeL Tryd.sizeOf37 (by rfl) (by rfl) (by exact HLp) (by exact RFp) (by exact RFp) (by exact RFp)).to (SetR.eq (by exact SRp))) ?_ | refine al_opd rfl rfl rfl ((ao_storeP (ds := [.int _ _, .int _ _]) Tryd.sizeOf37 (by rfl) (by rfl) (by exact HLp) (by exact RFp) (by exact RFp) (by exact LTp)).to (SetR.eq (by exact SRp))) ?_
        refine al_nilT ?_
        refine aw_ret ?_
        refine ends1 rfl (rv_cella Tryd.isAgg37 Tryd.sizeOf37 rfl (by exact HLp) (by rfl) (by exact RFp)) ?_
        exact ⟨by simp [nextSpot, *], by exact SMp⟩
      · try simp only [nrm] at h3_
        refine aw_seq ?_
        refine aw_region ?_
        refine al_opd rfl rfl rfl (ao_eql rfl rfl) ?_
        refine al_opd rfl rfl rfl (ao_as (v := .bool _) rfl) ?_
        refine al_nilT ?_
        refine aw_cond rfl (fun h4_ => ?_) (fun h4_ => ?_)
        · try simp only [nrm] at h4_
          refine aw_region ?_
          refine al_opd rfl rfl rfl (ao_fieldAddr fo_37_0 rfl) ?_
          refine al_opd rfl rfl rfl (ao_load (v := .int _ _) Tryd.isAgg35 (by rfl) (by exact HLp) (by rfl) (by exact RFp)) ?_
          first | refine al_opd rfl rfl rfl ((ao_sub rfl rfl).val (nw_i8 BDp BDp)) ?_ | refine al_opd rfl rfl rfl (ao_sub rfl rfl) ?_
          refine al_opd rfl rfl rfl (ao_fieldAddr fo_37_0 rfl) ?_
          refine al_opd rfl rfl rfl ((ao_store1 (v := .int _ _) Tryd.sizeOf35 (by rfl) (by rfl) (by exact HLp) (by rfl) (by exact LTp)).to (SetR.eq (by exact SRp))) ?_
          refine al_nilB ?_
          refine thenA_n ?_
          refine aw_seq ?_
          refine aw_region ?_
          refine al_opd rfl rfl rfl (ao_loada Tryd.isAgg37 Tryd.sizeOf37 rfl (by exact HLp) (by rfl) (by exact RFp)) ?_
          first | refine al_opd rfl rfl rfl ((ao_storeL Tryd.sizeOf37 (by rfl) (by rfl) (by exact HLp) (by exact RFp) (by exact RFp) (by exact RFp)).to (SetR.eq (by exact SRp))) ?_ | refine al_opd rfl rfl rfl ((ao_storeP (ds := [.int _ _, .int _ _]) Tryd.sizeOf37 (by rfl) (by rfl) (by exact HLp) (by exact RFp) (by exact RFp) (by exact LTp)).to (SetR.eq (by exact SRp))) ?_
          refine al_nilT ?_
          refine aw_ret ?_
          refine ends1 rfl (rv_cella Tryd.isAgg37 Tryd.sizeOf37 rfl (by exact HLp) (by rfl) (by exact RFp)) ?_
          exact ⟨by simp [nextSpot, *], by exact SMp⟩
        · try simp only [nrm] at h4_
          refine aw_skipB ?_
          refine thenA_n ?_
          refine aw_seq ?_
          refine aw_region ?_
          refine al_opd rfl rfl rfl (ao_loada Tryd.isAgg37 Tryd.sizeOf37 rfl (by exact HLp) (by rfl) (by exact RFp)) ?_
          first | refine al_opd rfl rfl rfl ((ao_storeL Tryd.sizeOf37 (by rfl) (by rfl) (by exact HLp) (by exact RFp) (by exact RFp) (by exact RFp)).to (SetR.eq (by exact SRp))) ?_ | refine al_opd rfl rfl rfl ((ao_storeP (ds := [.int _ _, .int _ _]) Tryd.sizeOf37 (by rfl) (by rfl) (by exact HLp) (by exact RFp) (by exact RFp) (by exact LTp)).to (SetR.eq (by exact SRp))) ?_
          refine al_nilT ?_
          refine aw_ret ?_
          refine ends1 rfl (rv_cella Tryd.isAgg37 Tryd.sizeOf37 rfl (by exact HLp) (by rfl) (by exact RFp)) ?_
          exact ⟨by simp [nextSpot, *], by exact SMp⟩

-- spec.l01Next
theorem l01Next_c {s : Spot} {k : Int} {H : AHeap} : ACd Tryd.prog 27 [.agg #[.int .i8 s.x, .int .i8 s.y], .int .i64 k] H (.agg #[.int .i8 (nextSpot s k).x, .int .i8 (nextSpot s k).y]) (H) := by
  refine ac_gc0 (fun β => VR.plainT β (by first | rfl | simp [plainT, plainV, plain1])) (ac_body Tryd.func27 rfl Tryd.ntmps27 rfl ?_)
  refine aw_seq ?_
  refine aw_region ?_
  refine al_opd rfl rfl rfl (ao_boxa (by rfl)) ?_
  refine al_opd rfl rfl rfl (ao_alloca (zv37) (by rfl)) ?_
  refine al_nilT ?_
  refine aw_seq ?_
  refine aw_seq ?_
  refine aw_region ?_
  refine al_opd rfl rfl rfl (ao_mv (v := .int _ _) rfl) ?_
  refine al_nilT ?_
  refine aw_block ?_
  refine aw_seq ?_
  refine aw_region ?_
  refine al_opd rfl rfl rfl (ao_eql rfl rfl) ?_
  refine al_opd rfl rfl rfl (ao_as (v := .bool _) rfl) ?_
  refine al_nilT ?_
  refine aw_cond rfl (fun h1_ => ?_) (fun h1_ => ?_)
  · try simp only [nrm] at h1_
    refine aw_region ?_
    refine al_opd rfl rfl rfl (ao_fieldAddr fo_37_1 rfl) ?_
    refine al_opd rfl rfl rfl (ao_load (v := .int _ _) Tryd.isAgg35 (by rfl) (by exact HLp) (by rfl) (by exact RFp)) ?_
    first | refine al_opd rfl rfl rfl ((ao_sub rfl rfl).val (nw_i8 BDp BDp)) ?_ | refine al_opd rfl rfl rfl (ao_sub rfl rfl) ?_
    refine al_opd rfl rfl rfl (ao_fieldAddr fo_37_1 rfl) ?_
    refine al_opd rfl rfl rfl ((ao_store1 (v := .int _ _) Tryd.sizeOf35 (by rfl) (by rfl) (by exact HLp) (by rfl) (by exact LTp)).to (SetR.eq (by exact SRp))) ?_
    refine al_nilB ?_
    refine thenA_n ?_
    refine aw_seq ?_
    refine aw_region ?_
    refine al_opd rfl rfl rfl (ao_loada Tryd.isAgg37 Tryd.sizeOf37 rfl (by exact HLp) (by rfl) (by exact RFp)) ?_
    first | refine al_opd rfl rfl rfl ((ao_storeL Tryd.sizeOf37 (by rfl) (by rfl) (by exact HLp) (by exact RFp) (by exact RFp) (by exact RFp)).to (SetR.eq (by exact SRp))) ?_ | refine al_opd rfl rfl rfl ((ao_storeP (ds := [.int _ _, .int _ _]) Tryd.sizeOf37 (by rfl) (by rfl) (by exact HLp) (by exact RFp) (by exact RFp) (by exact LTp)).to (SetR.eq (by exact SRp))) ?_
    refine al_nilT ?_
    refine aw_ret ?_
    refine ends1 rfl (rv_cella Tryd.isAgg37 Tryd.sizeOf37 rfl (by exact HLp) (by rfl) (by exact RFp)) ?_
    exact ⟨by simp [nextSpot, *], by exact SMp⟩
  · try simp only [nrm] at h1_
    refine aw_seq ?_
    refine aw_region ?_
    refine al_opd rfl rfl rfl (ao_eql rfl rfl) ?_
    refine al_opd rfl rfl rfl (ao_as (v := .bool _) rfl) ?_
    refine al_nilT ?_
    refine aw_cond rfl (fun h2_ => ?_) (fun h2_ => ?_)
    · try simp only [nrm] at h2_
      refine aw_region ?_
      refine al_opd rfl rfl rfl (ao_fieldAddr fo_37_0 rfl) ?_
      refine al_opd rfl rfl rfl (ao_load (v := .int _ _) Tryd.isAgg35 (by rfl) (by exact HLp) (by rfl) (by exact RFp)) ?_
      first | refine al_opd rfl rfl rfl ((ao_add rfl rfl).val (nw_i8 BDp BDp)) ?_ | refine al_opd rfl rfl rfl (ao_add rfl rfl) ?_
      refine al_opd rfl rfl rfl (ao_fieldAddr fo_37_0 rfl) ?_
      refine al_opd rfl rfl rfl ((ao_store1 (v := .int _ _) Tryd.sizeOf35 (by rfl) (by rfl) (by exact HLp) (by rfl) (by exact LTp)).to (SetR.eq (by exact SRp))) ?_
      refine al_nilB ?_
      refine thenA_n ?_
      refine aw_seq ?_
      refine aw_region ?_
      refine al_opd rfl rfl rfl (ao_loada Tryd.isAgg37 Tryd.sizeOf37 rfl (by exact HLp) (by rfl) (by exact RFp)) ?_
      first | refine al_opd rfl rfl rfl ((ao_storeL Tryd.sizeOf37 (by rfl) (by rfl) (by exact HLp) (by exact RFp) (by exact RFp) (by exact RFp)).to (SetR.eq (by exact SRp))) ?_ | refine al_opd rfl rfl rfl ((ao_storeP (ds := [.int _ _, .int _ _]) Tryd.sizeOf37 (by rfl) (by rfl) (by exact HLp) (by exact RFp) (by exact RFp) (by exact LTp)).to (SetR.eq (by exact SRp))) ?_
      refine al_nilT ?_
      refine aw_ret ?_
      refine ends1 rfl (rv_cella Tryd.isAgg37 Tryd.sizeOf37 rfl (by exact HLp) (by rfl) (by exact RFp)) ?_
      exact ⟨by simp [nextSpot, *], by exact SMp⟩
    · try simp only [nrm] at h2_
      refine aw_seq ?_
      refine aw_region ?_
      refine al_opd rfl rfl rfl (ao_eql rfl rfl) ?_
      refine al_opd rfl rfl rfl (ao_as (v := .bool _) rfl) ?_
      refine al_nilT ?_
      refine aw_cond rfl (fun h3_ => ?_) (fun h3_ => ?_)
      · try simp only [nrm] at h3_
        refine aw_region ?_
        refine al_opd rfl rfl rfl (ao_fieldAddr fo_37_1 rfl) ?_
        refine al_opd rfl rfl rfl (ao_load (v := .int _ _) Tryd.isAgg35 (by rfl) (by exact HLp) (by rfl) (by exact RFp)) ?_
        first | refine al_opd rfl rfl rfl ((ao_add rfl rfl).val (nw_i8 BDp BDp)) ?_ | refine al_opd rfl rfl rfl (ao_add rfl rfl) ?_
        refine al_opd rfl rfl rfl (ao_fieldAddr fo_37_1 rfl) ?_
        refine al_opd rfl rfl rfl ((ao_store1 (v := .int _ _) Tryd.sizeOf35 (by rfl) (by rfl) (by exact HLp) (by rfl) (by exact LTp)).to (SetR.eq (by exact SRp))) ?_
        refine al_nilB ?_
        refine thenA_n ?_
        refine aw_seq ?_
        refine aw_region ?_
        refine al_opd rfl rfl rfl (ao_loada Tryd.isAgg37 Tryd.sizeOf37 rfl (by exact HLp) (by rfl) (by exact RFp)) ?_
        first | refine al_opd rfl rfl rfl ((ao_storeL Tryd.sizeOf37 (by rfl) (by rfl) (by exact HLp) (by exact RFp) (by exact RFp) (by exact RFp)).to (SetR.eq (by exact SRp))) ?_ | refine al_opd rfl rfl rfl ((ao_storeP (ds := [.int _ _, .int _ _]) Tryd.sizeOf37 (by rfl) (by rfl) (by exact HLp) (by exact RFp) (by exact RFp) (by exact LTp)).to (SetR.eq (by exact SRp))) ?_
        refine al_nilT ?_
        refine aw_ret ?_
        refine ends1 rfl (rv_cella Tryd.isAgg37 Tryd.sizeOf37 rfl (by exact HLp) (by rfl) (by exact RFp)) ?_
        exact ⟨by simp [nextSpot, *], by exact SMp⟩
      · try simp only [nrm] at h3_
        refine aw_seq ?_
        refine aw_region ?_
        refine al_opd rfl rfl rfl (ao_eql rfl rfl) ?_
        refine al_opd rfl rfl rfl (ao_as (v := .bool _) rfl) ?_
        refine al_nilT ?_
        refine aw_cond rfl (fun h4_ => ?_) (fun h4_ => ?_)
        · try simp only [nrm] at h4_
          refine aw_region ?_
          refine al_opd rfl rfl rfl (ao_fieldAddr fo_37_0 rfl) ?_
          refine al_opd rfl rfl rfl (ao_load (v := .int _ _) Tryd.isAgg35 (by rfl) (by exact HLp) (by rfl) (by exact RFp)) ?_
          first | refine al_opd rfl rfl rfl ((ao_sub rfl rfl).val (nw_i8 BDp BDp)) ?_ | refine al_opd rfl rfl rfl (ao_sub rfl rfl) ?_
          refine al_opd rfl rfl rfl (ao_fieldAddr fo_37_0 rfl) ?_
          refine al_opd rfl rfl rfl ((ao_store1 (v := .int _ _) Tryd.sizeOf35 (by rfl) (by rfl) (by exact HLp) (by rfl) (by exact LTp)).to (SetR.eq (by exact SRp))) ?_
          refine al_nilB ?_
          refine thenA_n ?_
          refine aw_seq ?_
          refine aw_region ?_
          refine al_opd rfl rfl rfl (ao_loada Tryd.isAgg37 Tryd.sizeOf37 rfl (by exact HLp) (by rfl) (by exact RFp)) ?_
          first | refine al_opd rfl rfl rfl ((ao_storeL Tryd.sizeOf37 (by rfl) (by rfl) (by exact HLp) (by exact RFp) (by exact RFp) (by exact RFp)).to (SetR.eq (by exact SRp))) ?_ | refine al_opd rfl rfl rfl ((ao_storeP (ds := [.int _ _, .int _ _]) Tryd.sizeOf37 (by rfl) (by rfl) (by exact HLp) (by exact RFp) (by exact RFp) (by exact LTp)).to (SetR.eq (by exact SRp))) ?_
          refine al_nilT ?_
          refine aw_ret ?_
          refine ends1 rfl (rv_cella Tryd.isAgg37 Tryd.sizeOf37 rfl (by exact HLp) (by rfl) (by exact RFp)) ?_
          exact ⟨by simp [nextSpot, *], by exact SMp⟩
        · try simp only [nrm] at h4_
          refine aw_skipB ?_
          refine thenA_n ?_
          refine aw_seq ?_
          refine aw_region ?_
          refine al_opd rfl rfl rfl (ao_loada Tryd.isAgg37 Tryd.sizeOf37 rfl (by exact HLp) (by rfl) (by exact RFp)) ?_
          first | refine al_opd rfl rfl rfl ((ao_storeL Tryd.sizeOf37 (by rfl) (by rfl) (by exact HLp) (by exact RFp) (by exact RFp) (by exact RFp)).to (SetR.eq (by exact SRp))) ?_ | refine al_opd rfl rfl rfl ((ao_storeP (ds := [.int _ _, .int _ _]) Tryd.sizeOf37 (by rfl) (by rfl) (by exact HLp) (by exact RFp) (by exact RFp) (by exact LTp)).to (SetR.eq (by exact SRp))) ?_
          refine al_nilT ?_
          refine aw_ret ?_
          refine ends1 rfl (rv_cella Tryd.isAgg37 Tryd.sizeOf37 rfl (by exact HLp) (by rfl) (by exact RFp)) ?_
          exact ⟨by simp [nextSpot, *], by exact SMp⟩

-- impl.SideTo
theorem implSide_c {a b : Spot} {r : Int} {H : AHeap} (hr : firstAt (sideAt a b) 4 r) : ACd Tryd.prog 22 [.agg #[.int .i8 a.x, .int .i8 a.y], .agg #[.int .i8 b.x, .int .i8 b.y]] H (.int .i64 r) (H) := by
  refine ac_gc0 (fun β => VR.plainT β (by first | rfl | simp [plainT, plainV, plain1])) (ac_body Tryd.func22 rfl Tryd.ntmps22 rfl ?_)
  refine aw_seq ?_
  refine aw_region ?_
  refine al_opd rfl rfl rfl (ao_boxa (by rfl)) ?_
  refine al_opd rfl rfl rfl (ao_boxa (by rfl)) ?_
  refine al_opd rfl rfl rfl (ao_as (v := .int _ _) rfl) ?_
  refine al_nilT ?_
  refine aw_seq ?_
  refine aw_seq ?_
  refine aw_region ?_
  refine al_opd rfl rfl rfl (ao_mv (v := .int _ _) rfl) ?_
  refine al_nilT ?_
  refine aw_block ?_
  refine aw_loop (fun (gk : Nat) (fr : AFr) (G : AHeap) => ∃ get : Nat → Value, fr = ⟨16, get⟩ ∧ (∃ i : Nat, i ≤ 4 ∧ gk = 4 - i ∧ G = (H.push (.cells [.int .i8 a.x, .int .i8 a.y] 1)).push (.cells [.int .i8 b.x, .int .i8 b.y] 1) ∧ (∀ j, j < i → ¬ sideAt a b j) ∧ get 2 = .pointer (some ⟨H.next, 0, none⟩) ∧ get 3 = .pointer (some ⟨H.next + 1, 0, none⟩) ∧ get 6 = .int .i64 i)) (4) ⟨_, rfl, ?_⟩ ?_
  · exact ⟨0, by omega, rfl, rfl, fun j h => by omega, rfl, rfl, rfl⟩
  · rintro gk fr G ⟨get, rfl, i, hi, rfl, rfl, hm, g2, g3, g5⟩
    refine aw_slot (d := 2) (v := .pointer (some ⟨H.next, 0, none⟩)) (by first | assumption | rfl) ?_
    refine aw_slot (d := 3) (v := .pointer (some ⟨H.next + 1, 0, none⟩)) (by first | assumption | rfl) ?_
    refine aw_slot (d := 6) (v := .int .i64 i) (by first | assumption | rfl) ?_
    refine aw_seq ?_
    refine aw_region ?_
    refine al_opd rfl rfl rfl (ao_lss rfl rfl) ?_
    refine al_nilT ?_
    refine aw_seq ?_
    refine aw_cond rfl (fun h1_ => ?_) (fun h1_ => ?_)
    · try simp only [nrm] at h1_
      refine aw_skipT ?_
      refine aw_seq ?_
      refine aw_block ?_
      refine aw_seq ?_
      refine aw_region ?_
      refine al_opd rfl rfl rfl (ao_mv (v := .int _ _) rfl) ?_
      refine al_opd rfl rfl rfl (ao_as (v := .int _ _) rfl) ?_
      refine al_nilT ?_
      refine aw_seq ?_
      refine aw_draw (m := 5) mo (by kernel_rfl) rfl (fun _ _ _ h => h) ?_
      refine dw_opd rfl rfl rfl (ao_loada Tryd.isAgg37 Tryd.sizeOf37 rfl (by exact HLp) (by rfl) (by exact RFp)) ?_
      refine dw_opd rfl rfl rfl (ao_mv (v := .int _ _) rfl) ?_
      refine dw_opd rfl rfl rfl (ao_calld (implNext_c (s := a) (k := (i : Nat))) Tryd.call30 rfl rfl) ?_
      refine dw_opd rfl rfl rfl (ao_loada Tryd.isAgg37 Tryd.sizeOf37 rfl (by exact HLp) (by rfl) (by exact RFp)) ?_
      refine dw_opd rfl rfl rfl ((ao_eqV Tryd.eqGuardType37 rfl rfl rfl rfl (eqS37 _ _ _ _)).val (congrArg Value.bool (spot_eq (nextSpot a i) b))) ?_
      refine dw_end ?_
      refine al_nilT ?_
      refine aw_cond rfl (fun h2_ => ?_) (fun h2_ => ?_)
      · try simp only [nrm] at h2_
        refine aw_seq ?_
        refine aw_region ?_
        refine al_opd rfl rfl rfl (ao_mv (v := .int _ _) rfl) ?_
        refine al_opd rfl rfl rfl (ao_as (v := .int _ _) rfl) ?_
        refine al_nilT ?_
        refine aw_ret ?_
        refine blockA_r ?_
        refine thenA_r ?_
        refine thenA_r ?_
        refine blockA_r ?_
        refine thenA_r ?_
        refine ends1 rfl (rv_tmp (v := .int _ _) rfl) ?_
        exact ⟨congrArg (Value.int .i64) (firstAt_hit hr (by omega) h2_ hm), by exact SMp⟩
      · try simp only [nrm] at h2_
        refine aw_skipB ?_
        refine thenA_n ?_
        refine aw_region ?_
        first | refine al_opd rfl rfl rfl ((ao_add rfl rfl).val (nw_i64 BDp BDp)) ?_ | refine al_opd rfl rfl rfl (ao_add rfl rfl) ?_
        refine al_opd rfl rfl rfl (ao_mv (v := .int _ _) rfl) ?_
        refine al_nilT ?_
        refine ⟨_, ?_, _, rfl, i + 1, by omega, rfl, rfl, fun j hj => ?_, rfl, rfl, by rfl⟩
        · omega
        · rcases Nat.lt_or_ge j i with h9 | h9
          · exact hm j h9
          · obtain rfl : j = i := by omega
            exact h2_
    · try simp only [nrm] at h1_
      refine aw_exit ?_
      refine thenA_x ?_
      refine thenA_x ?_
      refine blockA_hit ?_
      refine thenA_n ?_
      refine aw_seq ?_
      refine aw_region ?_
      refine al_opd rfl rfl rfl (ao_as (v := .int _ _) rfl) ?_
      refine al_nilT ?_
      refine aw_ret ?_
      refine ends1 rfl (rv_tmp (v := .int _ _) rfl) ?_
      obtain rfl : i = 4 := by omega
      exact ⟨congrArg (Value.int .i64) (firstAt_none hr hm), by exact SMp⟩

-- spec.l01To
theorem l01To_c {a b : Spot} {r : Int} {H : AHeap} (hr : firstAt (sideAt a b) 4 r) : ACd Tryd.prog 35 [.agg #[.int .i8 a.x, .int .i8 a.y], .agg #[.int .i8 b.x, .int .i8 b.y]] H (.int .i64 r) (H) := by
  refine ac_gc0 (fun β => VR.plainT β (by first | rfl | simp [plainT, plainV, plain1])) (ac_body Tryd.func35 rfl Tryd.ntmps35 rfl ?_)
  refine aw_seq ?_
  refine aw_region ?_
  refine al_opd rfl rfl rfl (ao_boxa (by rfl)) ?_
  refine al_opd rfl rfl rfl (ao_boxa (by rfl)) ?_
  refine al_opd rfl rfl rfl (ao_as (v := .int _ _) rfl) ?_
  refine al_nilT ?_
  refine aw_seq ?_
  refine aw_seq ?_
  refine aw_region ?_
  refine al_opd rfl rfl rfl (ao_as (v := .int _ _) rfl) ?_
  refine al_nilT ?_
  refine aw_block ?_
  refine aw_loop (fun (gk : Nat) (fr : AFr) (G : AHeap) => ∃ get : Nat → Value, fr = ⟨16, get⟩ ∧ (∃ i : Nat, i ≤ 4 ∧ gk = 4 - i ∧ G = (H.push (.cells [.int .i8 a.x, .int .i8 a.y] 1)).push (.cells [.int .i8 b.x, .int .i8 b.y] 1) ∧ (∀ j, j < i → ¬ sideAt a b j) ∧ get 2 = .pointer (some ⟨H.next, 0, none⟩) ∧ get 3 = .pointer (some ⟨H.next + 1, 0, none⟩) ∧ get 5 = .int .i64 i)) (4) ⟨_, rfl, ?_⟩ ?_
  · exact ⟨0, by omega, rfl, rfl, fun j h => by omega, rfl, rfl, rfl⟩
  · rintro gk fr G ⟨get, rfl, i, hi, rfl, rfl, hm, g2, g3, g5⟩
    refine aw_slot (d := 2) (v := .pointer (some ⟨H.next, 0, none⟩)) (by first | assumption | rfl) ?_
    refine aw_slot (d := 3) (v := .pointer (some ⟨H.next + 1, 0, none⟩)) (by first | assumption | rfl) ?_
    refine aw_slot (d := 5) (v := .int .i64 i) (by first | assumption | rfl) ?_
    refine aw_seq ?_
    refine aw_seq ?_
    refine aw_region ?_
    refine al_opd rfl rfl rfl (ao_mv (v := .int _ _) rfl) ?_
    refine al_opd rfl rfl rfl (ao_lss rfl rfl) ?_
    refine al_nilT ?_
    refine aw_cond rfl (fun h1_ => ?_) (fun h1_ => ?_)
    · try simp only [nrm] at h1_
      refine aw_skipT ?_
      refine aw_seq ?_
      refine aw_block ?_
      refine aw_seq ?_
      refine aw_draw (m := 5) mo (by kernel_rfl) rfl (fun _ _ _ h => h) ?_
      refine dw_opd rfl rfl rfl (ao_loada Tryd.isAgg37 Tryd.sizeOf37 rfl (by exact HLp) (by rfl) (by exact RFp)) ?_
      refine dw_opd rfl rfl rfl (ao_mv (v := .int _ _) rfl) ?_
      refine dw_opd rfl rfl rfl (ao_calld (l01Next_c (s := a) (k := (i : Nat))) Tryd.call27 rfl rfl) ?_
      refine dw_opd rfl rfl rfl (ao_loada Tryd.isAgg37 Tryd.sizeOf37 rfl (by exact HLp) (by rfl) (by exact RFp)) ?_
      refine dw_opd rfl rfl rfl ((ao_eqV Tryd.eqGuardType37 rfl rfl rfl rfl (eqS37 _ _ _ _)).val (congrArg Value.bool (spot_eq (nextSpot a i) b))) ?_
      refine dw_end ?_
      refine al_nilT ?_
      refine aw_cond rfl (fun h2_ => ?_) (fun h2_ => ?_)
      · try simp only [nrm] at h2_
        refine aw_seq ?_
        refine aw_region ?_
        refine al_opd rfl rfl rfl (ao_mv (v := .int _ _) rfl) ?_
        refine al_opd rfl rfl rfl (ao_as (v := .int _ _) rfl) ?_
        refine al_nilT ?_
        refine aw_ret ?_
        refine blockA_r ?_
        refine thenA_r ?_
        refine thenA_r ?_
        refine blockA_r ?_
        refine thenA_r ?_
        refine ends1 rfl (rv_tmp (v := .int _ _) rfl) ?_
        exact ⟨congrArg (Value.int .i64) (firstAt_hit hr (by omega) h2_ hm), by exact SMp⟩
      · try simp only [nrm] at h2_
        refine aw_skipB ?_
        refine thenA_n ?_
        refine aw_region ?_
        refine al_opd rfl rfl rfl (ao_mv (v := .int _ _) rfl) ?_
        first | refine al_opd rfl rfl rfl ((ao_add rfl rfl).val (nw_i64 BDp BDp)) ?_ | refine al_opd rfl rfl rfl (ao_add rfl rfl) ?_
        refine al_opd rfl rfl rfl (ao_as (v := .int _ _) rfl) ?_
        refine al_nilT ?_
        refine ⟨_, ?_, _, rfl, i + 1, by omega, rfl, rfl, fun j hj => ?_, rfl, rfl, by rfl⟩
        · omega
        · rcases Nat.lt_or_ge j i with h9 | h9
          · exact hm j h9
          · obtain rfl : j = i := by omega
            exact h2_
    · try simp only [nrm] at h1_
      refine aw_exit ?_
      refine thenA_x ?_
      refine thenA_x ?_
      refine blockA_hit ?_
      refine thenA_n ?_
      refine aw_seq ?_
      refine aw_region ?_
      refine al_opd rfl rfl rfl (ao_as (v := .int _ _) rfl) ?_
      refine al_nilT ?_
      refine aw_ret ?_
      refine ends1 rfl (rv_tmp (v := .int _ _) rfl) ?_
      obtain rfl : i = 4 := by omega
      exact ⟨congrArg (Value.int .i64) (firstAt_none hr hm), by exact SMp⟩

end Go.Proofs.YtlcfmbaeaieomaaDoor
