/- Contracts of the program's functions over abstract heaps. -/
import Derived.Test.YtlcfmbaeaieomaaDoorLaws
namespace Go.Proofs.YtlcfmbaeaieomaaDoor
open Go Go.AW Go.Proofs
set_option linter.unusedVariables false
set_option linter.unusedSimpArgs false
set_option maxRecDepth 100000
set_option maxHeartbeats 2000000

-- (impl.Room).isCell
theorem isCell_c {r : Room} {s : Spot} {b : Bool} {H : AHeap} (hw : wfRoom r) (hs : wfSpot s) (hb : b = true ↔ isCell r s) : ACd Tryd.prog 20 [.agg (roomC r).toArray, .agg #[.int .i8 s.x, .int .i8 s.y]] H (.bool b) (H) := by
  have ⟨⟨w1, w2⟩, ⟨w3, w4⟩, w5⟩ := hw
  have ⟨⟨s1, s2⟩, ⟨s3, s4⟩⟩ := hs
  refine ac_gc0 (fun β => VR.plainT β (by first | rfl | simp [plainT, plainV, plain1])) (ac_body Tryd.func20 rfl Tryd.ntmps20 rfl ?_)
  refine aw_seq ?_
  refine aw_region ?_
  refine al_opd rfl rfl rfl (ao_boxa (by rfl)) ?_
  refine al_opd rfl rfl rfl (ao_boxa (by rfl)) ?_
  refine al_opd rfl rfl rfl (ao_as (v := .bool _) rfl) ?_
  refine al_nilT ?_
  refine aw_seq ?_
  refine aw_region ?_
  refine al_opd rfl rfl rfl (ao_fieldAddr fo_37_0 rfl) ?_
  refine al_opd rfl rfl rfl (ao_load (v := .int _ _) Tryd.isAgg35 (by rfl) (by exact HLp) (by rfl) (by exact RFp)) ?_
  first | refine al_opd rfl rfl rfl ((ao_conv ⟨_, Tryd.underlying35⟩ Tryd.underlying2 rfl).val (nw_i64 BDp BDp)) ?_ | refine al_opd rfl rfl rfl (ao_conv ⟨_, Tryd.underlying35⟩ Tryd.underlying2 rfl) ?_
  refine al_opd rfl rfl rfl (ao_fieldAddr fo_45_0 rfl) ?_
  refine al_opd rfl rfl rfl (ao_load (v := .int _ _) Tryd.isAgg35 (by rfl) (by exact HLp) (by rfl) (by exact RFp)) ?_
  first | refine al_opd rfl rfl rfl ((ao_conv ⟨_, Tryd.underlying35⟩ Tryd.underlying2 rfl).val (nw_i64 BDp BDp)) ?_ | refine al_opd rfl rfl rfl (ao_conv ⟨_, Tryd.underlying35⟩ Tryd.underlying2 rfl) ?_
  refine al_opd rfl rfl rfl ((ao_min rfl rfl).val (minV _)) ?_
  first | refine al_opd rfl rfl rfl ((ao_sub rfl rfl).val (nw_i64 BDp BDp)) ?_ | refine al_opd rfl rfl rfl (ao_sub rfl rfl) ?_
  refine al_opd rfl rfl rfl (ao_calld (within_c) Tryd.call37 rfl rfl) ?_
  refine al_opd rfl rfl rfl (ao_mv (v := .bool _) rfl) ?_
  refine al_cases (d := 14) rfl (fun h1_ => ?_) (fun h1_ => ?_)
  · try simp only [nrm] at h1_
    refine al_gyes rfl rfl rfl rfl rfl (ao_fieldAddr fo_37_1 rfl) ?_
    refine al_gyes rfl rfl rfl rfl rfl (ao_load (v := .int _ _) Tryd.isAgg35 (by rfl) (by exact HLp) (by rfl) (by exact RFp)) ?_
    first | refine al_gyes rfl rfl rfl rfl rfl ((ao_conv ⟨_, Tryd.underlying35⟩ Tryd.underlying2 rfl).val (nw_i64 BDp BDp)) ?_ | refine al_gyes rfl rfl rfl rfl rfl (ao_conv ⟨_, Tryd.underlying35⟩ Tryd.underlying2 rfl) ?_
    refine al_gyes rfl rfl rfl rfl rfl (ao_fieldAddr fo_45_1 rfl) ?_
    refine al_gyes rfl rfl rfl rfl rfl (ao_load (v := .int _ _) Tryd.isAgg35 (by rfl) (by exact HLp) (by rfl) (by exact RFp)) ?_
    first | refine al_gyes rfl rfl rfl rfl rfl ((ao_conv ⟨_, Tryd.underlying35⟩ Tryd.underlying2 rfl).val (nw_i64 BDp BDp)) ?_ | refine al_gyes rfl rfl rfl rfl rfl (ao_conv ⟨_, Tryd.underlying35⟩ Tryd.underlying2 rfl) ?_
    refine al_gyes rfl rfl rfl rfl rfl ((ao_min rfl rfl).val (minV _)) ?_
    first | refine al_gyes rfl rfl rfl rfl rfl ((ao_sub rfl rfl).val (nw_i64 BDp BDp)) ?_ | refine al_gyes rfl rfl rfl rfl rfl (ao_sub rfl rfl) ?_
    refine al_gyes rfl rfl rfl rfl rfl (ao_calld (within_c) Tryd.call37 rfl rfl) ?_
    refine al_opd rfl rfl rfl (ao_pickT rfl (v := .bool _) rfl) ?_
    refine al_opd rfl rfl rfl (ao_as (v := .bool _) rfl) ?_
    refine al_nilT ?_
    refine aw_ret ?_
    refine ends1 rfl (rv_tmp (v := .bool _) rfl) ?_
    exact ⟨beqv hb (by simp only [Bool.and_eq_true, decide_eq_true_eq]; unfold isCell; omega), by exact SMp⟩
  · try simp only [nrm] at h1_
    refine al_gno rfl rfl rfl rfl rfl ?_
    refine al_gno rfl rfl rfl rfl rfl ?_
    refine al_gno rfl rfl rfl rfl rfl ?_
    refine al_gno rfl rfl rfl rfl rfl ?_
    refine al_gno rfl rfl rfl rfl rfl ?_
    refine al_gno rfl rfl rfl rfl rfl ?_
    refine al_gno rfl rfl rfl rfl rfl ?_
    refine al_gno rfl rfl rfl rfl rfl ?_
    refine al_gno rfl rfl rfl rfl rfl ?_
    refine al_opd rfl rfl rfl (ao_pickF rfl (v := .bool _) rfl) ?_
    refine al_opd rfl rfl rfl (ao_as (v := .bool _) rfl) ?_
    refine al_nilT ?_
    refine aw_ret ?_
    refine ends1 rfl (rv_tmp (v := .bool _) rfl) ?_
    exact ⟨bf hb (by unfold isCell; omega), by exact SMp⟩

end Go.Proofs.YtlcfmbaeaieomaaDoor
