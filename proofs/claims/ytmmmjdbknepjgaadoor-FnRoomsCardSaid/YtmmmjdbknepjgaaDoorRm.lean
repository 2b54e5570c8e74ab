/- Contracts of the program's functions over abstract heaps. -/
import Derived.Test.YtmmmjdbknepjgaaDoorTab
namespace Go.Proofs.YtmmmjdbknepjgaaDoor
open Go Go.AW Go.Proofs
set_option linter.unusedVariables false
set_option linter.unusedSimpArgs false
set_option maxRecDepth 100000
set_option maxHeartbeats 2000000

-- spec.l00In
theorem l00In_c {n l h : Int} {H : AHeap} : ACd Tryd.prog 66 [.int .i64 n, .int .i64 l, .int .i64 h] H (.bool (decide (l ≤ n) && decide (n ≤ h))) (H) := by
  refine ac_gc0 (fun β => VR.plainT β (by first | rfl | simp [plainT, plainV, plain1])) (ac_body Tryd.func66 rfl Tryd.ntmps66 rfl ?_)
  refine aw_seq ?_
  refine aw_region ?_
  refine al_opd rfl rfl rfl (ao_as (v := .bool _) rfl) ?_
  refine al_nilT ?_
  refine aw_seq ?_
  refine aw_region ?_
  refine al_opd rfl rfl rfl (ao_mv (v := .int _ _) rfl) ?_
  refine al_opd rfl rfl rfl (ao_mv (v := .int _ _) rfl) ?_
  refine al_opd rfl rfl rfl (ao_geq rfl rfl) ?_
  refine al_opd rfl rfl rfl (ao_mv (v := .bool _) rfl) ?_
  refine al_cases (d := 10) rfl (fun h1_ => ?_) (fun h1_ => ?_)
  · try simp only [nrm] at h1_
    refine al_gyes rfl rfl rfl rfl rfl (ao_mv (v := .int _ _) rfl) ?_
    refine al_gyes rfl rfl rfl rfl rfl (ao_mv (v := .int _ _) rfl) ?_
    refine al_gyes rfl rfl rfl rfl rfl (ao_leq rfl rfl) ?_
    refine al_opd rfl rfl rfl (ao_pickT rfl (v := .bool _) rfl) ?_
    refine al_opd rfl rfl rfl (ao_as (v := .bool _) rfl) ?_
    refine al_nilT ?_
    refine aw_ret ?_
    refine ends1 rfl (rv_tmp (v := .bool _) rfl) ?_
    exact ⟨by first | rfl | (simp [*]; (first | done | fail)), by exact SMp⟩
  · try simp only [nrm] at h1_
    refine al_gno rfl rfl rfl rfl rfl ?_
    refine al_gno rfl rfl rfl rfl rfl ?_
    refine al_gno rfl rfl rfl rfl rfl ?_
    refine al_opd rfl rfl rfl (ao_pickF rfl (v := .bool _) rfl) ?_
    refine al_opd rfl rfl rfl (ao_as (v := .bool _) rfl) ?_
    refine al_nilT ?_
    refine aw_ret ?_
    refine ends1 rfl (rv_tmp (v := .bool _) rfl) ?_
    exact ⟨by first | rfl | (simp [*]; (first | done | fail)), by exact SMp⟩

-- impl.within
theorem within_c {n l h : Int} {H : AHeap} : ACd Tryd.prog 53 [.int .i64 n, .int .i64 l, .int .i64 h] H (.bool (decide (l ≤ n) && decide (n ≤ h))) (H) := by
  refine ac_gc0 (fun β => VR.plainT β (by first | rfl | simp [plainT, plainV, plain1])) (ac_body Tryd.func53 rfl Tryd.ntmps53 rfl ?_)
  refine aw_seq ?_
  refine aw_region ?_
  refine al_opd rfl rfl rfl (ao_as (v := .bool _) rfl) ?_
  refine al_nilT ?_
  refine aw_seq ?_
  refine aw_region ?_
  refine al_opd rfl rfl rfl (ao_mv (v := .int _ _) rfl) ?_
  refine al_opd rfl rfl rfl (ao_mv (v := .int _ _) rfl) ?_
  refine al_opd rfl rfl rfl (ao_leq rfl rfl) ?_
  refine al_opd rfl rfl rfl (ao_mv (v := .bool _) rfl) ?_
  refine al_cases (d := 10) rfl (fun h1_ => ?_) (fun h1_ => ?_)
  · try simp only [nrm] at h1_
    refine al_gyes rfl rfl rfl rfl rfl (ao_mv (v := .int _ _) rfl) ?_
    refine al_gyes rfl rfl rfl rfl rfl (ao_mv (v := .int _ _) rfl) ?_
    refine al_gyes rfl rfl rfl rfl rfl (ao_leq rfl rfl) ?_
    refine al_opd rfl rfl rfl (ao_pickT rfl (v := .bool _) rfl) ?_
    refine al_opd rfl rfl rfl (ao_as (v := .bool _) rfl) ?_
    refine al_nilT ?_
    refine aw_ret ?_
    refine ends1 rfl (rv_tmp (v := .bool _) rfl) ?_
    exact ⟨by first | rfl | (simp [*]; (first | done | fail)), by exact SMp⟩
  · try simp only [nrm] at h1_
    refine al_gno rfl rfl rfl rfl rfl ?_
    refine al_gno rfl rfl rfl rfl rfl ?_
    refine al_gno rfl rfl rfl rfl rfl ?_
    refine al_opd rfl rfl rfl (ao_pickF rfl (v := .bool _) rfl) ?_
    refine al_opd rfl rfl rfl (ao_as (v := .bool _) rfl) ?_
    refine al_nilT ?_
    refine aw_ret ?_
    refine ends1 rfl (rv_tmp (v := .bool _) rfl) ?_
    exact ⟨by first | rfl | (simp [*]; (first | done | fail)), by exact SMp⟩

-- impl.NextSpot
theorem implNext_c {s : Spot} {k : Int} {H : AHeap} : ACd Tryd.prog 28 [.agg #[.int .i8 s.x, .int .i8 s.y], .int .i64 k] H (.agg #[.int .i8 (nextSpot s k).x, .int .i8 (nextSpot s k).y]) (H) := by
  refine ac_gc0 (fun β => VR.plainT β (by first | rfl | simp [plainT, plainV, plain1])) (ac_body Tryd.func28 rfl Tryd.ntmps28 rfl ?_)
  refine aw_seq ?_
  refine aw_region ?_
  refine al_opd rfl rfl rfl (ao_boxa (by rfl)) ?_
  refine al_opd rfl rfl rfl (ao_alloca (zv48) (by rfl)) ?_
  refine al_nilT ?_
  refine aw_seq ?_
  refine aw_seq ?_
  refine aw_region ?_
  refine al_opd rfl rfl rfl (ao_mv (v := .int _ _) rfl) ?_
  refine al_nilT ?_
  refine aw_block ?_
  refine aw_seq ?_
  refine aw_region ?_
  refine al_opd rfl rfl rfl (ao_eql rfl rfl) ?_
  refine al_opd rfl rfl rfl (ao_as (v := .bool _) rfl) ?_
  refine al_nilT ?_
  refine aw_cond rfl (fun h1_ => ?_) (fun h1_ => ?_)
  · try simp only [nrm] at h1_
    refine aw_region ?_
    refine al_opd rfl rfl rfl (ao_fieldAddr fo_48_1 rfl) ?_
    refine al_opd rfl rfl rfl (ao_load (v := .int _ _) Tryd.isAgg24 (by rfl) (by exact HLp) (by rfl) (by exact RFp)) ?_
    first | refine al_opd rfl rfl rfl ((ao_sub rfl rfl).val (nw_i8 BDp BDp)) ?_ | refine al_opd rfl rfl rfl (ao_sub rfl rfl) ?_
    refine al_opd rfl rfl rfl (ao_fieldAddr fo_48_1 rfl) ?_
    refine al_opd rfl rfl rfl ((ao_store1 (v := .int _ _) Tryd.sizeOf24 (by rfl) (by rfl) (by exact HLp) (by rfl) (by exact LTp)).to (SetR.eq (by exact SRp))) ?_
    refine al_nilB ?_
    refine thenA_n ?_
    refine aw_seq ?_
    refine aw_region ?_
    refine al_opd rfl rfl rfl (ao_loada Tryd.isAgg48 Tryd.sizeOf48 rfl (by exact HLp) (by rfl) (by exact RFp)) ?_
    first | refine al_opd rfl rfl rfl ((ao_storeL Tryd.sizeOf48 (by rfl) (by rfl) (by exact HLp) (by exact RFp) (by exact RFp) (by exact RFp)).to (SetR.eq (by exact SRp))) ?_ | refine al_opd rfl rfl rfl ((ao_storeP (ds := [.int _ _, .int _ _]) Tryd.sizeOf48 (by rfl) (by rfl) (by exact HLp) (by exact RFp) (by exact RFp) (by exact LTp)).to (SetR.eq (by exact SRp))) ?_
    refine al_nilT ?_
    refine aw_ret ?_
    refine ends1 rfl (rv_cella Tryd.isAgg48 Tryd.sizeOf48 rfl (by exact HLp) (by rfl) (by exact RFp)) ?_
    exact ⟨by simp [nextSpot, *], by exact SMp⟩
  · try simp only [nrm] at h1_
    refine aw_seq ?_
    refine aw_region ?_
    refine al_opd rfl rfl rfl (ao_eql rfl rfl) ?_
    refine al_opd rfl rfl rfl (ao_as (v := .bool _) rfl) ?_
    refine al_nilT ?_
    refine aw_cond rfl (fun h2_ => ?_) (fun h2_ => ?_)
    · try simp only [nrm] at h2_
      refine aw_region ?_
      refine al_opd rfl rfl rfl (ao_fieldAddr fo_48_0 rfl) ?_
      refine al_opd rfl rfl rfl (ao_load (v := .int _ _) Tryd.isAgg24 (by rfl) (by exact HLp) (by rfl) (by exact RFp)) ?_
      first | refine al_opd rfl rfl rfl ((ao_add rfl rfl).val (nw_i8 BDp BDp)) ?_ | refine al_opd rfl rfl rfl (ao_add rfl rfl) ?_
      refine al_opd rfl rfl rfl (ao_fieldAddr fo_48_0 rfl) ?_
      refine al_opd rfl rfl rfl ((ao_store1 (v := .int _ _) Tryd.sizeOf24 (by rfl) (by rfl) (by exact HLp) (by rfl) (by exact LTp)).to (SetR.eq (by exact SRp))) ?_
      refine al_nilB ?_
      refine thenA_n ?_
      refine aw_seq ?_
      refine aw_region ?_
      refine al_opd rfl rfl rfl (ao_loada Tryd.isAgg48 Tryd.sizeOf48 rfl (by exact HLp) (by rfl) (by exact RFp)) ?_
      first | refine al_opd rfl rfl rfl ((ao_storeL Tryd.sizeOf48 (by rfl) (by rfl) (by exact HLp) (by exact RFp) (by exact RFp) (by exact RFp)).to (SetR.eq (by exact SRp))) ?_ | refine al_opd rfl rfl rfl ((ao_storeP (ds := [.int _ _, .int _ _]) Tryd.sizeOf48 (by rfl) (by rfl) (by exact HLp) (by exact RFp) (by exact RFp) (by exact LTp)).to (SetR.eq (by exact SRp))) ?_
      refine al_nilT ?_
      refine aw_ret ?_
      refine ends1 rfl (rv_cella Tryd.isAgg48 Tryd.sizeOf48 rfl (by exact HLp) (by rfl) (by exact RFp)) ?_
      exact ⟨by simp [nextSpot, *], by exact SMp⟩
    · try simp only [nrm] at h2_
      refine aw_seq ?_
      refine aw_region ?_
      refine al_opd rfl rfl rfl (ao_eql rfl rfl) ?_
      refine al_opd rfl rfl rfl (ao_as (v := .bool _) rfl) ?_
      refine al_nilT ?_
      refine aw_cond rfl (fun h3_ => ?_) (fun h3_ => ?_)
      · try simp only [nrm] at h3_
        refine aw_region ?_
        refine al_opd rfl rfl rfl (ao_fieldAddr fo_48_1 rfl) ?_
        refine al_opd rfl rfl rfl (ao_load (v := .int _ _) Tryd.isAgg24 (by rfl) (by exact HLp) (by rfl) (by exact RFp)) ?_
        first | refine al_opd rfl rfl rfl ((ao_add rfl rfl).val (nw_i8 BDp BDp)) ?_ | refine al_opd rfl rfl rfl (ao_add rfl rfl) ?_
        refine al_opd rfl rfl rfl (ao_fieldAddr fo_48_1 rfl) ?_
        refine al_opd rfl rfl rfl ((ao_store1 (v := .int _ _) Tryd.sizeOf24 (by rfl) (by rfl) (by exact HLp) (by rfl) (by exact LTp)).to (SetR.eq (by exact SRp))) ?_
        refine al_nilB ?_
        refine thenA_n ?_
        refine aw_seq ?_
        refine aw_region ?_
        refine al_opd rfl rfl rfl (ao_loada Tryd.isAgg48 Tryd.sizeOf48 rfl (by exact HLp) (by rfl) (by exact RFp)) ?_
        first | refine al_opd rfl rfl rfl ((ao_storeL Tryd.sizeOf48 (by rfl) (by rfl) (by exact HLp) (by exact RFp) (by exact RFp) (by exact RFp)).to (SetR.eq (by exact SRp))) ?_ | refine al_opd rfl rfl rfl ((ao_storeP (ds := [.int _ _, .int _ _]) Tryd.sizeOf48 (by rfl) (by rfl) (by exact HLp) (by exact RFp) (by exact RFp) (by exact LTp)).to (SetR.eq (by exact SRp))) ?_
        refine al_nilT ?_
        refine aw_ret ?_
        refine ends1 rfl (rv_cella Tryd.isAgg48 Tryd.sizeOf48 rfl (by exact HLp) (by rfl) (by exact RFp)) ?_
        exact ⟨by simp [nextSpot, *], by exact SMp⟩
      · try simp only [nrm] at h3_
        refine aw_seq ?_
        refine aw_region ?_
        refine al_opd rfl rfl rfl (ao_eql rfl rfl) ?_
        refine al_opd rfl rfl rfl (ao_as (v := .bool _) rfl) ?_
        refine al_nilT ?_
        refine aw_cond rfl (fun h4_ => ?_) (fun h4_ => ?_)
        · try simp only [nrm] at h4_
          refine aw_region ?_
          refine al_opd rfl rfl rfl (ao_fieldAddr fo_48_0 rfl) ?_
          refine al_opd rfl rfl rfl (ao_load (v := .int _ _) Tryd.isAgg24 (by rfl) (by exact HLp) (by rfl) (by exact RFp)) ?_
          first | refine al_opd rfl rfl rfl ((ao_sub rfl rfl).val (nw_i8 BDp BDp)) ?_ | refine al_opd rfl rfl rfl (ao_sub rfl rfl) ?_
          refine al_opd rfl rfl rfl (ao_fieldAddr fo_48_0 rfl) ?_
          refine al_opd rfl rfl rfl ((ao_store1 (v := .int _ _) Tryd.sizeOf24 (by rfl) (by rfl) (by exact HLp) (by rfl) (by exact LTp)).to (SetR.eq (by exact SRp))) ?_
          refine al_nilB ?_
          refine thenA_n ?_
          refine aw_seq ?_
          refine aw_region ?_
          refine al_opd rfl rfl rfl (ao_loada Tryd.isAgg48 Tryd.sizeOf48 rfl (by exact HLp) (by rfl) (by exact RFp)) ?_
          first | refine al_opd rfl rfl rfl ((ao_storeL Tryd.sizeOf48 (by rfl) (by rfl) (by exact HLp) (by exact RFp) (by exact RFp) (by exact RFp)).to (SetR.eq (by exact SRp))) ?_ | refine al_opd rfl rfl rfl ((ao_storeP (ds := [.int _ _, .int _ _]) Tryd.sizeOf48 (by rfl) (by rfl) (by exact HLp) (by exact RFp) (by exact RFp) (by exact LTp)).to (SetR.eq (by exact SRp))) ?_
          refine al_nilT ?_
          refine aw_ret ?_
          refine ends1 rfl (rv_cella Tryd.isAgg48 Tryd.sizeOf48 rfl (by exact HLp) (by rfl) (by exact RFp)) ?_
          exact ⟨by simp [nextSpot, *], by exact SMp⟩
        · try simp only [nrm] at h4_
          refine aw_skipB ?_
          refine thenA_n ?_
          refine aw_seq ?_
          refine aw_region ?_
          refine al_opd rfl rfl rfl (ao_loada Tryd.isAgg48 Tryd.sizeOf48 rfl (by exact HLp) (by rfl) (by exact RFp)) ?_
          first | refine al_opd rfl rfl rfl ((ao_storeL Tryd.sizeOf48 (by rfl) (by rfl) (by exact HLp) (by exact RFp) (by exact RFp) (by exact RFp)).to (SetR.eq (by exact SRp))) ?_ | refine al_opd rfl rfl rfl ((ao_storeP (ds := [.int _ _, .int _ _]) Tryd.sizeOf48 (by rfl) (by rfl) (by exact HLp) (by exact RFp) (by exact RFp) (by exact LTp)).to (SetR.eq (by exact SRp))) ?_
          refine al_nilT ?_
          refine aw_ret ?_
          refine ends1 rfl (rv_cella Tryd.isAgg48 Tryd.sizeOf48 rfl (by exact HLp) (by rfl) (by exact RFp)) ?_
          exact ⟨by simp [nextSpot, *], by exact SMp⟩

-- spec.l01Next
theorem l01Next_c {s : Spot} {k : Int} {H : AHeap} : ACd Tryd.prog 61 [.agg #[.int .i8 s.x, .int .i8 s.y], .int .i64 k] H (.agg #[.int .i8 (nextSpot s k).x, .int .i8 (nextSpot s k).y]) (H) := by
  refine ac_gc0 (fun β => VR.plainT β (by first | rfl | simp [plainT, plainV, plain1])) (ac_body Tryd.func61 rfl Tryd.ntmps61 rfl ?_)
  refine aw_seq ?_
  refine aw_region ?_
  refine al_opd rfl rfl rfl (ao_boxa (by rfl)) ?_
  refine al_opd rfl rfl rfl (ao_alloca (zv48) (by rfl)) ?_
  refine al_nilT ?_
  refine aw_seq ?_
  refine aw_seq ?_
  refine aw_region ?_
  refine al_opd rfl rfl rfl (ao_mv (v := .int _ _) rfl) ?_
  refine al_nilT ?_
  refine aw_block ?_
  refine aw_seq ?_
  refine aw_region ?_
  refine al_opd rfl rfl rfl (ao_eql rfl rfl) ?_
  refine al_opd rfl rfl rfl (ao_as (v := .bool _) rfl) ?_
  refine al_nilT ?_
  refine aw_cond rfl (fun h1_ => ?_) (fun h1_ => ?_)
  · try simp only [nrm] at h1_
    refine aw_region ?_
    refine al_opd rfl rfl rfl (ao_fieldAddr fo_48_1 rfl) ?_
    refine al_opd rfl rfl rfl (ao_load (v := .int _ _) Tryd.isAgg24 (by rfl) (by exact HLp) (by rfl) (by exact RFp)) ?_
    first | refine al_opd rfl rfl rfl ((ao_sub rfl rfl).val (nw_i8 BDp BDp)) ?_ | refine al_opd rfl rfl rfl (ao_sub rfl rfl) ?_
    refine al_opd rfl rfl rfl (ao_fieldAddr fo_48_1 rfl) ?_
    refine al_opd rfl rfl rfl ((ao_store1 (v := .int _ _) Tryd.sizeOf24 (by rfl) (by rfl) (by exact HLp) (by rfl) (by exact LTp)).to (SetR.eq (by exact SRp))) ?_
    refine al_nilB ?_
    refine thenA_n ?_
    refine aw_seq ?_
    refine aw_region ?_
    refine al_opd rfl rfl rfl (ao_loada Tryd.isAgg48 Tryd.sizeOf48 rfl (by exact HLp) (by rfl) (by exact RFp)) ?_
    first | refine al_opd rfl rfl rfl ((ao_storeL Tryd.sizeOf48 (by rfl) (by rfl) (by exact HLp) (by exact RFp) (by exact RFp) (by exact RFp)).to (SetR.eq (by exact SRp))) ?_ | refine al_opd rfl rfl rfl ((ao_storeP (ds := [.int _ _, .int _ _]) Tryd.sizeOf48 (by rfl) (by rfl) (by exact HLp) (by exact RFp) (by exact RFp) (by exact LTp)).to (SetR.eq (by exact SRp))) ?_
    refine al_nilT ?_
    refine aw_ret ?_
    refine ends1 rfl (rv_cella Tryd.isAgg48 Tryd.sizeOf48 rfl (by exact HLp) (by rfl) (by exact RFp)) ?_
    exact ⟨by simp [nextSpot, *], by exact SMp⟩
  · try simp only [nrm] at h1_
    refine aw_seq ?_
    refine aw_region ?_
    refine al_opd rfl rfl rfl (ao_eql rfl rfl) ?_
    refine al_opd rfl rfl rfl (ao_as (v := .bool _) rfl) ?_
    refine al_nilT ?_
    refine aw_cond rfl (fun h2_ => ?_) (fun h2_ => ?_)
    · try simp only [nrm] at h2_
      refine aw_region ?_
      refine al_opd rfl rfl rfl (ao_fieldAddr fo_48_0 rfl) ?_
      refine al_opd rfl rfl rfl (ao_load (v := .int _ _) Tryd.isAgg24 (by rfl) (by exact HLp) (by rfl) (by exact RFp)) ?_
      first | refine al_opd rfl rfl rfl ((ao_add rfl rfl).val (nw_i8 BDp BDp)) ?_ | refine al_opd rfl rfl rfl (ao_add rfl rfl) ?_
      refine al_opd rfl rfl rfl (ao_fieldAddr fo_48_0 rfl) ?_
      refine al_opd rfl rfl rfl ((ao_store1 (v := .int _ _) Tryd.sizeOf24 (by rfl) (by rfl) (by exact HLp) (by rfl) (by exact LTp)).to (SetR.eq (by exact SRp))) ?_
      refine al_nilB ?_
      refine thenA_n ?_
      refine aw_seq ?_
      refine aw_region ?_
      refine al_opd rfl rfl rfl (ao_loada Tryd.isAgg48 Tryd.sizeOf48 rfl (by exact HLp) (by rfl) (by exact RFp)) ?_
      first | refine al_opd rfl rfl rfl ((ao_storeL Tryd.sizeOf48 (by rfl) (by rfl) (by exact HLp) (by exact RFp) (by exact RFp) (by exact RFp)).to (SetR.eq (by exact SRp))) ?_ | refine al_opd rfl rfl rfl ((ao_storeP (ds := [.int _ _, .int _ _]) Tryd.sizeOf48 (by rfl) (by rfl) (by exact HLp) (by exact RFp) (by exact RFp) (by exact LTp)).to (SetR.eq (by exact SRp))) ?_
      refine al_nilT ?_
      refine aw_ret ?_
      refine ends1 rfl (rv_cella Tryd.isAgg48 Tryd.sizeOf48 rfl (by exact HLp) (by rfl) (by exact RFp)) ?_
      exact ⟨by simp [nextSpot, *], by exact SMp⟩
    · try simp only [nrm] at h2_
      refine aw_seq ?_
      refine aw_region ?_
      refine al_opd rfl rfl rfl (ao_eql rfl rfl) ?_
      refine al_opd rfl rfl rfl (ao_as (v := .bool _) rfl) ?_
      refine al_nilT ?_
      refine aw_cond rfl (fun h3_ => ?_) (fun h3_ => ?_)
      · try simp only [nrm] at h3_
        refine aw_region ?_
        refine al_opd rfl rfl rfl (ao_fieldAddr fo_48_1 rfl) ?_
        refine al_opd rfl rfl rfl (ao_load (v := .int _ _) Tryd.isAgg24 (by rfl) (by exact HLp) (by rfl) (by exact RFp)) ?_
        first | refine al_opd rfl rfl rfl ((ao_add rfl rfl).val (nw_i8 BDp BDp)) ?_ | refine al_opd rfl rfl rfl (ao_add rfl rfl) ?_
        refine al_opd rfl rfl rfl (ao_fieldAddr fo_48_1 rfl) ?_
        refine al_opd rfl rfl rfl ((ao_store1 (v := .int _ _) Tryd.sizeOf24 (by rfl) (by rfl) (by exact HLp) (by rfl) (by exact LTp)).to (SetR.eq (by exact SRp))) ?_
        refine al_nilB ?_
        refine thenA_n ?_
        refine aw_seq ?_
        refine aw_region ?_
        refine al_opd rfl rfl rfl (ao_loada Tryd.isAgg48 Tryd.sizeOf48 rfl (by exact HLp) (by rfl) (by exact RFp)) ?_
        first | refine al_opd rfl rfl rfl ((ao_storeL Tryd.sizeOf48 (by rfl) (by rfl) (by exact HLp) (by exact RFp) (by exact RFp) (by exact RFp)).to (SetR.eq (by exact SRp))) ?_ | refine al_opd rfl rfl rfl ((ao_storeP (ds := [.int _ _, .int _ _]) Tryd.sizeOf48 (by rfl) (by rfl) (by exact HLp) (by exact RFp) (by exact RFp) (by exact LTp)).to (SetR.eq (by exact SRp))) ?_
        refine al_nilT ?_
        refine aw_ret ?_
        refine ends1 rfl (rv_cella Tryd.isAgg48 Tryd.sizeOf48 rfl (by exact HLp) (by rfl) (by exact RFp)) ?_
        exact ⟨by simp [nextSpot, *], by exact SMp⟩
      · try simp only [nrm] at h3_
        refine aw_seq ?_
        refine aw_region ?_
        refine al_opd rfl rfl rfl (ao_eql rfl rfl) ?_
        refine al_opd rfl rfl rfl (ao_as (v := .bool _) rfl) ?_
        refine al_nilT ?_
        refine aw_cond rfl (fun h4_ => ?_) (fun h4_ => ?_)
        · try simp only [nrm] at h4_
          refine aw_region ?_
          refine al_opd rfl rfl rfl (ao_fieldAddr fo_48_0 rfl) ?_
          refine al_opd rfl rfl rfl (ao_load (v := .int _ _) Tryd.isAgg24 (by rfl) (by exact HLp) (by rfl) (by exact RFp)) ?_
          first | refine al_opd rfl rfl rfl ((ao_sub rfl rfl).val (nw_i8 BDp BDp)) ?_ | refine al_opd rfl rfl rfl (ao_sub rfl rfl) ?_
          refine al_opd rfl rfl rfl (ao_fieldAddr fo_48_0 rfl) ?_
          refine al_opd rfl rfl rfl ((ao_store1 (v := .int _ _) Tryd.sizeOf24 (by rfl) (by rfl) (by exact HLp) (by rfl) (by exact LTp)).to (SetR.eq (by exact SRp))) ?_
          refine al_nilB ?_
          refine thenA_n ?_
          refine aw_seq ?_
          refine aw_region ?_
          refine al_opd rfl rfl rfl (ao_loada Tryd.isAgg48 Tryd.sizeOf48 rfl (by exact HLp) (by rfl) (by exact RFp)) ?_
          first | refine al_opd rfl rfl rfl ((ao_storeL Tryd.sizeOf48 (by rfl) (by rfl) (by exact HLp) (by exact RFp) (by exact RFp) (by exact RFp)).to (SetR.eq (by exact SRp))) ?_ | refine al_opd rfl rfl rfl ((ao_storeP (ds := [.int _ _, .int _ _]) Tryd.sizeOf48 (by rfl) (by rfl) (by exact HLp) (by exact RFp) (by exact RFp) (by exact LTp)).to (SetR.eq (by exact SRp))) ?_
          refine al_nilT ?_
          refine aw_ret ?_
          refine ends1 rfl (rv_cella Tryd.isAgg48 Tryd.sizeOf48 rfl (by exact HLp) (by rfl) (by exact RFp)) ?_
          exact ⟨by simp [nextSpot, *], by exact SMp⟩
        · try simp only [nrm] at h4_
          refine aw_skipB ?_
          refine thenA_n ?_
          refine aw_seq ?_
          refine aw_region ?_
          refine al_opd rfl rfl rfl (ao_loada Tryd.isAgg48 Tryd.sizeOf48 rfl (by exact HLp) (by rfl) (by exact RFp)) ?_
          first | refine al_opd rfl rfl rfl ((ao_storeL Tryd.sizeOf48 (by rfl) (by rfl) (by exact HLp) (by exact RFp) (by exact RFp) (by exact RFp)).to (SetR.eq (by exact SRp))) ?_ | refine al_opd rfl rfl rfl ((ao_storeP (ds := [.int _ _, .int _ _]) Tryd.sizeOf48 (by rfl) (by rfl) (by exact HLp) (by exact RFp) (by exact RFp) (by exact LTp)).to (SetR.eq (by exact SRp))) ?_
          refine al_nilT ?_
          refine aw_ret ?_
          refine ends1 rfl (rv_cella Tryd.isAgg48 Tryd.sizeOf48 rfl (by exact HLp) (by rfl) (by exact RFp)) ?_
          exact ⟨by simp [nextSpot, *], by exact SMp⟩

-- spec.NextSpot
theorem specNext_c {s : Spot} {k : Int} {H : AHeap} : ACd Tryd.prog 30 [.agg #[.int .i8 s.x, .int .i8 s.y], .int .i64 k] H (.agg #[.int .i8 (nextSpot s k).x, .int .i8 (nextSpot s k).y]) (H) := by
  refine ac_gc0 (fun β => VR.plainT β (by first | rfl | simp [plainT, plainV, plain1])) (ac_body Tryd.func30 rfl Tryd.ntmps30 rfl ?_)
  refine aw_seq ?_
  refine aw_region ?_
  refine al_opd rfl rfl rfl (ao_boxa (by rfl)) ?_
  refine al_opd rfl rfl rfl (ao_alloca (zv48) (by rfl)) ?_
  refine al_nilT ?_
  refine aw_seq ?_
  refine aw_region ?_
  refine al_opd rfl rfl rfl (ao_loada Tryd.isAgg48 Tryd.sizeOf48 rfl (by exact HLp) (by rfl) (by exact RFp)) ?_
  refine al_opd rfl rfl rfl (ao_mv (v := .int _ _) rfl) ?_
  refine al_opd rfl rfl rfl (ao_calld (l01Next_c (s := s) (k := k)) Tryd.call61 rfl rfl) ?_
  first | refine al_opd rfl rfl rfl ((ao_storeL Tryd.sizeOf48 (by rfl) (by rfl) (by exact HLp) (by exact RFp) (by exact RFp) (by exact RFp)).to (SetR.eq (by exact SRp))) ?_ | refine al_opd rfl rfl rfl ((ao_storeP (ds := [.int _ _, .int _ _]) Tryd.sizeOf48 (by rfl) (by rfl) (by exact HLp) (by exact RFp) (by exact RFp) (by exact LTp)).to (SetR.eq (by exact SRp))) ?_
  refine al_nilT ?_
  refine aw_ret ?_
  refine ends1 rfl (rv_cella Tryd.isAgg48 Tryd.sizeOf48 rfl (by exact HLp) (by rfl) (by exact RFp)) ?_
  exact ⟨by first | rfl | (simp [*]; (first | done | fail)), by exact SMp⟩

-- impl.SideTo
theorem implSide_c {a b : Spot} {r : Int} {H : AHeap} (hr : firstAt (sideAt a b) 4 r) : ACd Tryd.prog 29 [.agg #[.int .i8 a.x, .int .i8 a.y], .agg #[.int .i8 b.x, .int .i8 b.y]] H (.int .i64 r) (H) := by
  refine ac_gc0 (fun β => VR.plainT β (by first | rfl | simp [plainT, plainV, plain1])) (ac_body Tryd.func29 rfl Tryd.ntmps29 rfl ?_)
  refine aw_seq ?_
  refine aw_region ?_
  refine al_opd rfl rfl rfl (ao_boxa (by rfl)) ?_
  refine al_opd rfl rfl rfl (ao_boxa (by rfl)) ?_
  refine al_opd rfl rfl rfl (ao_as (v := .int _ _) rfl) ?_
  refine al_nilT ?_
  refine aw_seq ?_
  refine aw_seq ?_
  refine aw_region ?_
  refine al_opd rfl rfl rfl (ao_mv (v := .int _ _) rfl) ?_
  refine al_nilT ?_
  refine aw_block ?_
  refine aw_loop (fun (gk : Nat) (fr : AFr) (G : AHeap) => ∃ get : Nat → Value, fr = ⟨16, get⟩ ∧ (∃ i : Nat, i ≤ 4 ∧ gk = 4 - i ∧ G = (H.push (.cells [.int .i8 a.x, .int .i8 a.y] 1)).push (.cells [.int .i8 b.x, .int .i8 b.y] 1) ∧ (∀ j, j < i → ¬ sideAt a b j) ∧ get 2 = .pointer (some ⟨H.next, 0, none⟩) ∧ get 3 = .pointer (some ⟨H.next + 1, 0, none⟩) ∧ get 6 = .int .i64 i)) (4) ⟨_, rfl, ?_⟩ ?_
  · exact ⟨0, by omega, rfl, rfl, fun j h => by omega, rfl, rfl, rfl⟩
  · rintro gk fr G ⟨get, rfl, i, hi, rfl, rfl, hm, g2, g3, g5⟩
    refine aw_slot (d := 2) (v := .pointer (some ⟨H.next, 0, none⟩)) (by first | assumption | rfl) ?_
    refine aw_slot (d := 3) (v := .pointer (some ⟨H.next + 1, 0, none⟩)) (by first | assumption | rfl) ?_
    refine aw_slot (d := 6) (v := .int .i64 i) (by first | assumption | rfl) ?_
    refine aw_seq ?_
    refine aw_region ?_
    refine al_opd rfl rfl rfl (ao_lss rfl rfl) ?_
    refine al_nilT ?_
    refine aw_seq ?_
    refine aw_cond rfl (fun h1_ => ?_) (fun h1_ => ?_)
    · try simp only [nrm] at h1_
      refine aw_skipT ?_
      refine aw_seq ?_
      refine aw_block ?_
      refine aw_seq ?_
      refine aw_region ?_
      refine al_opd rfl rfl rfl (ao_mv (v := .int _ _) rfl) ?_
      refine al_opd rfl rfl rfl (ao_as (v := .int _ _) rfl) ?_
      refine al_nilT ?_
      refine aw_seq ?_
      refine aw_draw (m := 5) mo (by kernel_rfl) rfl (fun _ _ _ h => h) ?_
      refine dw_opd rfl rfl rfl (ao_loada Tryd.isAgg48 Tryd.sizeOf48 rfl (by exact HLp) (by rfl) (by exact RFp)) ?_
      refine dw_opd rfl rfl rfl (ao_mv (v := .int _ _) rfl) ?_
      refine dw_opd rfl rfl rfl (ao_calld (implNext_c (s := a) (k := (i : Nat))) Tryd.call28 rfl rfl) ?_
      refine dw_opd rfl rfl rfl (ao_loada Tryd.isAgg48 Tryd.sizeOf48 rfl (by exact HLp) (by rfl) (by exact RFp)) ?_
      refine dw_opd rfl rfl rfl ((ao_eqV Tryd.eqGuardType48 rfl rfl rfl rfl (eqS48 _ _ _ _)).val (congrArg Value.bool (spot_eq (nextSpot a i) b))) ?_
      refine dw_end ?_
      refine al_nilT ?_
      refine aw_cond rfl (fun h2_ => ?_) (fun h2_ => ?_)
      · try simp only [nrm] at h2_
        refine aw_seq ?_
        refine aw_region ?_
        refine al_opd rfl rfl rfl (ao_mv (v := .int _ _) rfl) ?_
        refine al_opd rfl rfl rfl (ao_as (v := .int _ _) rfl) ?_
        refine al_nilT ?_
        refine aw_ret ?_
        refine blockA_r ?_
        refine thenA_r ?_
        refine thenA_r ?_
        refine blockA_r ?_
        refine thenA_r ?_
        refine ends1 rfl (rv_tmp (v := .int _ _) rfl) ?_
        exact ⟨congrArg (Value.int .i64) (firstAt_hit hr (by omega) h2_ hm), by exact SMp⟩
      · try simp only [nrm] at h2_
        refine aw_skipB ?_
        refine thenA_n ?_
        refine aw_region ?_
        first | refine al_opd rfl rfl rfl ((ao_add rfl rfl).val (nw_i64 BDp BDp)) ?_ | refine al_opd rfl rfl rfl (ao_add rfl rfl) ?_
        refine al_opd rfl rfl rfl (ao_mv (v := .int _ _) rfl) ?_
        refine al_nilT ?_
        refine ⟨_, ?_, _, rfl, i + 1, by omega, rfl, rfl, fun j hj => ?_, rfl, rfl, by rfl⟩
        · omega
        · rcases Nat.lt_or_ge j i with h9 | h9
          · exact hm j h9
          · obtain rfl : j = i := by omega
            exact h2_
    · try simp only [nrm] at h1_
      refine aw_exit ?_
      refine thenA_x ?_
      refine thenA_x ?_
      refine blockA_hit ?_
      refine thenA_n ?_
      refine aw_seq ?_
      refine aw_region ?_
      refine al_opd rfl rfl rfl (ao_as (v := .int _ _) rfl) ?_
      refine al_nilT ?_
      refine aw_ret ?_
      refine ends1 rfl (rv_tmp (v := .int _ _) rfl) ?_
      obtain rfl : i = 4 := by omega
      exact ⟨congrArg (Value.int .i64) (firstAt_none hr hm), by exact SMp⟩

-- impl.OpenRoom
theorem implOpen1_c {m n : Int} {H : AHeap} (h : 1 ≤ m ∧ m ≤ 10 ∧ 1 ≤ n ∧ n ≤ 10) : ACd Tryd.prog 35 [.int .i64 m, .int .i64 n] H (.tuple #[.agg (roomC ⟨m, n, fun _ => 0⟩).toArray, .int .i64 0]) (H) := by
  refine ac_gc0 (fun β => VR.plainT β (by first | rfl | simp [plainT, plainV, plain1])) (ac_body Tryd.func35 rfl Tryd.ntmps35 rfl ?_)
  refine aw_seq ?_
  refine aw_region ?_
  refine al_opd rfl rfl rfl (ao_alloca (zv28) (by rfl)) ?_
  refine al_opd rfl rfl rfl (ao_as (v := .int _ _) rfl) ?_
  refine al_nilT ?_
  refine aw_seq ?_
  refine aw_seq ?_
  refine aw_region ?_
  refine al_opd rfl rfl rfl (ao_mv (v := .int _ _) rfl) ?_
  refine al_opd rfl rfl rfl (ao_calld (within_c) Tryd.call53 rfl rfl) ?_
  refine al_opd rfl rfl rfl (ao_not rfl) ?_
  refine al_opd rfl rfl rfl (ao_mv (v := .bool _) rfl) ?_
  refine al_cases (d := 9) rfl (fun h1_ => ?_) (fun h1_ => ?_)
  · try simp only [nrm] at h1_
    first | done | omega | (exfalso; revert h1_; simp; (first | done | omega))
  try simp only [nrm] at h1_
  refine al_gyes rfl rfl rfl rfl rfl (ao_mv (v := .int _ _) rfl) ?_
  refine al_gyes rfl rfl rfl rfl rfl (ao_calld (within_c) Tryd.call53 rfl rfl) ?_
  refine al_gyes rfl rfl rfl rfl rfl (ao_not rfl) ?_
  refine al_opd rfl rfl rfl (ao_pickF rfl (v := .bool _) rfl) ?_
  refine al_nilT ?_
  refine aw_cond rfl (fun h2_ => ?_) (fun h2_ => ?_)
  · try simp only [nrm] at h2_
    first | done | omega | (exfalso; revert h2_; simp; (first | done | omega))
  try simp only [nrm] at h2_
  refine aw_skipT ?_
  refine aw_seq ?_
  refine aw_region ?_
  refine al_opd rfl rfl rfl (ao_mv (v := .int _ _) rfl) ?_
  first | refine al_opd rfl rfl rfl ((ao_conv ⟨_, Tryd.underlying2⟩ Tryd.underlying24 rfl).val (nw_i8 BDp BDp)) ?_ | refine al_opd rfl rfl rfl (ao_conv ⟨_, Tryd.underlying2⟩ Tryd.underlying24 rfl) ?_
  refine al_opd rfl rfl rfl (ao_mv (v := .int _ _) rfl) ?_
  first | refine al_opd rfl rfl rfl ((ao_conv ⟨_, Tryd.underlying2⟩ Tryd.underlying24 rfl).val (nw_i8 BDp BDp)) ?_ | refine al_opd rfl rfl rfl (ao_conv ⟨_, Tryd.underlying2⟩ Tryd.underlying24 rfl) ?_
  refine al_opd rfl rfl rfl (ao_build (A := (roomC ⟨m, n, fun _ => 0⟩).toArray) Tryd.zeroValue28 (by rfl) (by first | rfl | kernel_rfl) (by rfl) (by first | rfl | kernel_rfl)) ?_
  first | refine al_opd rfl rfl rfl ((ao_storeL Tryd.sizeOf28 (by rfl) (by rfl) (by exact HLp) (by exact RFp) (by exact RFp) (by exact RFp)).to (SetR.eq (by exact SRp))) ?_ | refine al_opd rfl rfl rfl ((ao_storeP (ds := [.int _ _, .int _ _, .int _ _, .int _ _, .int _ _, .int _ _, .int _ _, .int _ _, .int _ _, .int _ _, .int _ _, .int _ _]) Tryd.sizeOf28 (by rfl) (by rfl) (by exact HLp) (by exact RFp) (by exact RFp) (by exact LTp)).to (SetR.eq (by exact SRp))) ?_
  refine al_opd rfl rfl rfl (ao_as (v := .int _ _) rfl) ?_
  refine al_nilT ?_
  refine aw_ret ?_
  refine ends2 rfl (rv_cella Tryd.isAgg28 Tryd.sizeOf28 rfl (by exact HLp) (by rfl) (by exact RFp)) (rv_tmp (v := .int _ _) rfl) ?_
  exact ⟨by first | rfl | (simp [*]; (first | done | fail)), by exact SMp⟩

-- spec.SameSpots
theorem specSameSpots_c {v u : Value} {l m : List Spot} {H : AHeap} (ha : Sl H spot 2 v l) (hb : Sl H spot 2 u m) (hl : l.length ≤ 4194304) : ACd Tryd.prog 20 [v, u] H (.bool (decide (l = m))) (H) := by
  refine ac_gc0 (fun β => VR.plainT β (by first | rfl | simp [plainT, plainV, plain1])) (ac_body Tryd.func20 rfl Tryd.ntmps20 rfl ?_)
  refine aw_seq ?_
  refine aw_region ?_
  refine al_opd rfl rfl rfl (ao_as (v := .bool _) rfl) ?_
  refine al_nilT ?_
  refine aw_seq ?_
  refine aw_seq ?_
  refine aw_region ?_
  first | refine al_opd rfl rfl rfl (ao_mv (v := .slice _ _ _) rfl) ?_ | refine al_opd rfl rfl rfl (ao_mv (v := v) rfl) ?_ | refine al_opd rfl rfl rfl (ao_mv (v := u) rfl) ?_
  first | refine al_opd rfl rfl rfl (ao_lenS Tryd.underlying37 (by rfl)) ?_ | refine al_opd rfl rfl rfl (ao_lenN Tryd.underlying37 (by rfl)) ?_ | refine al_opd rfl rfl rfl (ao_lenV Tryd.underlying37 rfl ha) ?_ | refine al_opd rfl rfl rfl (ao_lenV Tryd.underlying37 rfl hb) ?_
  first | refine al_opd rfl rfl rfl (ao_mv (v := .slice _ _ _) rfl) ?_ | refine al_opd rfl rfl rfl (ao_mv (v := v) rfl) ?_ | refine al_opd rfl rfl rfl (ao_mv (v := u) rfl) ?_
  first | refine al_opd rfl rfl rfl (ao_lenS Tryd.underlying37 (by rfl)) ?_ | refine al_opd rfl rfl rfl (ao_lenN Tryd.underlying37 (by rfl)) ?_ | refine al_opd rfl rfl rfl (ao_lenV Tryd.underlying37 rfl ha) ?_ | refine al_opd rfl rfl rfl (ao_lenV Tryd.underlying37 rfl hb) ?_
  refine al_opd rfl rfl rfl (ao_neq rfl rfl) ?_
  refine al_nilT ?_
  refine aw_cond rfl (fun h1_ => ?_) (fun h1_ => ?_)
  · try simp only [nrm] at h1_
    refine aw_seq ?_
    refine aw_region ?_
    refine al_opd rfl rfl rfl (ao_as (v := .bool _) rfl) ?_
    refine al_nilT ?_
    refine aw_ret ?_
    refine thenA_r ?_
    refine ends1 rfl (rv_tmp (v := .bool _) rfl) ?_
    exact ⟨by rw [decide_eq_false (fun e => h1_ (by rw [e]))], by exact SMp⟩
  · try simp only [nrm] at h1_
    refine aw_skipT ?_
    refine aw_seq ?_
    refine aw_seq ?_
    refine aw_region ?_
    refine al_opd rfl rfl rfl (ao_as (v := .int _ _) rfl) ?_
    refine al_nilT ?_
    refine aw_block ?_
    refine aw_loop (fun (gk : Nat) (fr : AFr) (G : AHeap) => ∃ get : Nat → Value, fr = ⟨26, get⟩ ∧ (∃ i : Nat, i ≤ l.length ∧ gk = l.length - i ∧ G = H ∧ get 0 = v ∧ get 1 = u ∧ get 5 = .int .i64 i ∧ l.take i = m.take i)) (l.length) ⟨_, rfl, ?_⟩ ?_
    · exact ⟨0, Nat.zero_le _, rfl, rfl, rfl, rfl, rfl, by simp⟩
    · rintro gk fr G ⟨get, rfl, i, hi, rfl, rfl, g0, g1, g5, hq⟩
      have hlen : l.length = m.length := by omega
      refine aw_slot (d := 0) (v := v) (by first | assumption | rfl) ?_
      refine aw_slot (d := 1) (v := u) (by first | assumption | rfl) ?_
      refine aw_slot (d := 5) (v := .int .i64 i) (by first | assumption | rfl) ?_
      refine aw_seq ?_
      refine aw_seq ?_
      refine aw_region ?_
      refine al_opd rfl rfl rfl (ao_mv (v := .int _ _) rfl) ?_
      first | refine al_opd rfl rfl rfl (ao_mv (v := .slice _ _ _) rfl) ?_ | refine al_opd rfl rfl rfl (ao_mv (v := v) rfl) ?_ | refine al_opd rfl rfl rfl (ao_mv (v := u) rfl) ?_
      first | refine al_opd rfl rfl rfl (ao_lenS Tryd.underlying37 (by rfl)) ?_ | refine al_opd rfl rfl rfl (ao_lenN Tryd.underlying37 (by rfl)) ?_ | refine al_opd rfl rfl rfl (ao_lenV Tryd.underlying37 rfl ha) ?_ | refine al_opd rfl rfl rfl (ao_lenV Tryd.underlying37 rfl hb) ?_
      refine al_opd rfl rfl rfl (ao_lss rfl rfl) ?_
      refine al_nilT ?_
      refine aw_cond rfl (fun h2_ => ?_) (fun h2_ => ?_)
      · try simp only [nrm] at h2_
        obtain ⟨x, hx⟩ := get_lt (show i < l.length by omega)
        obtain ⟨y, hy⟩ := get_lt (show i < m.length by omega)
        refine aw_skipT ?_
        refine aw_seq ?_
        refine aw_block ?_
        refine aw_seq ?_
        refine aw_draw (m := 9) mo (by kernel_rfl) rfl (fun _ _ _ h => h) ?_
        first | refine dw_opd rfl rfl rfl (ao_mv (v := .slice _ _ _) rfl) ?_ | refine dw_opd rfl rfl rfl (ao_mv (v := v) rfl) ?_ | refine dw_opd rfl rfl rfl (ao_mv (v := u) rfl) ?_
        refine dw_opd rfl rfl rfl (ao_mv (v := .int _ _) rfl) ?_
        first | refine dw_opd rfl rfl rfl (ao_indexAddrS Tryd.underlying37 Tryd.sizeOf48 rfl rfl (by exact IXp) (by exact IXp)) ?_ | refine dw_opd rfl rfl rfl (ao_indexV Tryd.underlying37 Tryd.sizeOf48 rfl rfl ha (by exact IXp) (by exact IXp)) ?_ | refine dw_opd rfl rfl rfl (ao_indexV Tryd.underlying37 Tryd.sizeOf48 rfl rfl hb (by exact IXp) (by exact IXp)) ?_
        first | refine dw_opd rfl rfl rfl (ao_loada Tryd.isAgg48 Tryd.sizeOf48 rfl (by exact HLp) (by rfl) (by exact RFp)) ?_ | refine dw_opd rfl rfl rfl (ao_loadsV (A := #[.int _ _, .int _ _]) Tryd.isAgg48 Tryd.sizeOf48 ha rfl (by assumption) rfl (by decide)) ?_ | refine dw_opd rfl rfl rfl (ao_loadsV (A := #[.int _ _, .int _ _]) Tryd.isAgg48 Tryd.sizeOf48 hb rfl (by assumption) rfl (by decide)) ?_
        first | refine dw_opd rfl rfl rfl (ao_mv (v := .slice _ _ _) rfl) ?_ | refine dw_opd rfl rfl rfl (ao_mv (v := v) rfl) ?_ | refine dw_opd rfl rfl rfl (ao_mv (v := u) rfl) ?_
        refine dw_opd rfl rfl rfl (ao_mv (v := .int _ _) rfl) ?_
        first | refine dw_opd rfl rfl rfl (ao_indexAddrS Tryd.underlying37 Tryd.sizeOf48 rfl rfl (by exact IXp) (by exact IXp)) ?_ | refine dw_opd rfl rfl rfl (ao_indexV Tryd.underlying37 Tryd.sizeOf48 rfl rfl ha (by exact IXp) (by exact IXp)) ?_ | refine dw_opd rfl rfl rfl (ao_indexV Tryd.underlying37 Tryd.sizeOf48 rfl rfl hb (by exact IXp) (by exact IXp)) ?_
        first | refine dw_opd rfl rfl rfl (ao_loada Tryd.isAgg48 Tryd.sizeOf48 rfl (by exact HLp) (by rfl) (by exact RFp)) ?_ | refine dw_opd rfl rfl rfl (ao_loadsV (A := #[.int _ _, .int _ _]) Tryd.isAgg48 Tryd.sizeOf48 ha rfl (by assumption) rfl (by decide)) ?_ | refine dw_opd rfl rfl rfl (ao_loadsV (A := #[.int _ _, .int _ _]) Tryd.isAgg48 Tryd.sizeOf48 hb rfl (by assumption) rfl (by decide)) ?_
        refine dw_opd rfl rfl rfl (ao_neV Tryd.eqGuardType48 rfl rfl rfl rfl (eqS48 _ _ _ _)) ?_
        refine dw_end ?_
        refine al_nilT ?_
        refine aw_cond rfl (fun h3_ => ?_) (fun h3_ => ?_)
        · try simp only [nrm] at h3_
          refine aw_seq ?_
          refine aw_region ?_
          refine al_opd rfl rfl rfl (ao_as (v := .bool _) rfl) ?_
          refine al_nilT ?_
          refine aw_ret ?_
          refine blockA_r ?_
          refine thenA_r ?_
          refine thenA_r ?_
          refine blockA_r ?_
          refine thenA_r ?_
          refine ends1 rfl (rv_tmp (v := .bool _) rfl) ?_
          exact ⟨by rw [decide_eq_false (ne_at hx hy (fun e => by subst e; simp at h3_))], by exact SMp⟩
        · try simp only [nrm] at h3_
          refine aw_skipB ?_
          refine thenA_n ?_
          refine aw_region ?_
          refine al_opd rfl rfl rfl (ao_mv (v := .int _ _) rfl) ?_
          first | refine al_opd rfl rfl rfl ((ao_add rfl rfl).val (nw_i64 BDp BDp)) ?_ | refine al_opd rfl rfl rfl (ao_add rfl rfl) ?_
          refine al_opd rfl rfl rfl (ao_as (v := .int _ _) rfl) ?_
          refine al_nilT ?_
          exact ⟨_, by omega, _, rfl, i + 1, by omega, rfl, rfl, rfl, rfl, by rfl, take_step hq hx (by rw [hy]; exact congrArg some (spot_ext h3_.1 h3_.2).symm)⟩
      · try simp only [nrm] at h2_
        refine aw_exit ?_
        refine thenA_x ?_
        refine thenA_x ?_
        refine blockA_hit ?_
        refine thenA_n ?_
        refine aw_seq ?_
        refine aw_region ?_
        refine al_opd rfl rfl rfl (ao_as (v := .bool _) rfl) ?_
        refine al_nilT ?_
        refine aw_ret ?_
        refine ends1 rfl (rv_tmp (v := .bool _) rfl) ?_
        exact ⟨by rw [decide_eq_true (take_all hq (by omega) hlen)], by exact SMp⟩

end Go.Proofs.YtmmmjdbknepjgaaDoor
