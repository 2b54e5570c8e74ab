/- Contracts of the program's functions over abstract heaps. -/
import Derived.Test.YtmafkbminigbcaaBfs7
import Derived.Test.YtmafkbminigbcaaTab
namespace Go.Proofs.Ytmafkbminigbcaa
open Go Go.AW Go.Proofs
set_option linter.unusedVariables false
set_option linter.unusedSimpArgs false
set_option maxRecDepth 100000
set_option maxHeartbeats 2000000

-- impl.compareSpots
theorem cmpSpots_c {a b : Spot} {H : AHeap} (ha : wfSpot a) (hb : wfSpot b) : ACd Try.prog 37 [.agg #[.int .i8 a.x, .int .i8 a.y], .agg #[.int .i8 b.x, .int .i8 b.y]] H (.int .i64 (cmpS a b)) (H) := by
  have ⟨⟨a1, a2⟩, a3, a4⟩ := ha
  have ⟨⟨b1, b2⟩, b3, b4⟩ := hb
  refine ac_gc0 (fun β => VR.plainT β (by first | rfl | simp [plainT, plainV, plain1])) (ac_body Try.func37 rfl Try.ntmps37 rfl ?_)
  refine aw_seq ?_
  refine aw_region ?_
  refine al_opd rfl rfl rfl (ao_boxa (by rfl)) ?_
  refine al_opd rfl rfl rfl (ao_boxa (by rfl)) ?_
  refine al_opd rfl rfl rfl (ao_as (v := .int _ _) rfl) ?_
  refine al_nilT ?_
  refine aw_seq ?_
  refine aw_seq ?_
  refine aw_region ?_
  refine al_opd rfl rfl rfl (ao_fieldAddr fo_31_1 rfl) ?_
  refine al_opd rfl rfl rfl (ao_load (v := .int _ _) Try.isAgg24 (by rfl) (by exact HLp) (by rfl) (by exact RFp)) ?_
  refine al_opd rfl rfl rfl (ao_fieldAddr fo_31_1 rfl) ?_
  refine al_opd rfl rfl rfl (ao_load (v := .int _ _) Try.isAgg24 (by rfl) (by exact HLp) (by rfl) (by exact RFp)) ?_
  refine al_opd rfl rfl rfl (ao_neq rfl rfl) ?_
  refine al_nilT ?_
  refine aw_cond rfl (fun h1_ => ?_) (fun h1_ => ?_)
  · try simp only [nrm] at h1_
    refine aw_seq ?_
    refine aw_region ?_
    refine al_opd rfl rfl rfl (ao_fieldAddr fo_31_1 rfl) ?_
    refine al_opd rfl rfl rfl (ao_load (v := .int _ _) Try.isAgg24 (by rfl) (by exact HLp) (by rfl) (by exact RFp)) ?_
    first | refine al_opd rfl rfl rfl ((ao_conv ⟨_, Try.underlying24⟩ Try.underlying3 rfl).val (nw_i64 BDp BDp)) ?_ | refine al_opd rfl rfl rfl (ao_conv ⟨_, Try.underlying24⟩ Try.underlying3 rfl) ?_
    refine al_opd rfl rfl rfl (ao_fieldAddr fo_31_1 rfl) ?_
    refine al_opd rfl rfl rfl (ao_load (v := .int _ _) Try.isAgg24 (by rfl) (by exact HLp) (by rfl) (by exact RFp)) ?_
    first | refine al_opd rfl rfl rfl ((ao_conv ⟨_, Try.underlying24⟩ Try.underlying3 rfl).val (nw_i64 BDp BDp)) ?_ | refine al_opd rfl rfl rfl (ao_conv ⟨_, Try.underlying24⟩ Try.underlying3 rfl) ?_
    first | refine al_opd rfl rfl rfl ((ao_sub rfl rfl).val (nw_i64 BDp BDp)) ?_ | refine al_opd rfl rfl rfl (ao_sub rfl rfl) ?_
    refine al_opd rfl rfl rfl (ao_as (v := .int _ _) rfl) ?_
    refine al_nilT ?_
    refine aw_ret ?_
    refine thenA_r ?_
    refine ends1 rfl (rv_tmp (v := .int _ _) rfl) ?_
    exact ⟨by unfold cmpS; rw [if_neg (by simpa using h1_)], by exact SMp⟩
  · try simp only [nrm] at h1_
    refine aw_skipT ?_
    refine aw_seq ?_
    refine aw_region ?_
    refine al_opd rfl rfl rfl (ao_fieldAddr fo_31_0 rfl) ?_
    refine al_opd rfl rfl rfl (ao_load (v := .int _ _) Try.isAgg24 (by rfl) (by exact HLp) (by rfl) (by exact RFp)) ?_
    first | refine al_opd rfl rfl rfl ((ao_conv ⟨_, Try.underlying24⟩ Try.underlying3 rfl).val (nw_i64 BDp BDp)) ?_ | refine al_opd rfl rfl rfl (ao_conv ⟨_, Try.underlying24⟩ Try.underlying3 rfl) ?_
    refine al_opd rfl rfl rfl (ao_fieldAddr fo_31_0 rfl) ?_
    refine al_opd rfl rfl rfl (ao_load (v := .int _ _) Try.isAgg24 (by rfl) (by exact HLp) (by rfl) (by exact RFp)) ?_
    first | refine al_opd rfl rfl rfl ((ao_conv ⟨_, Try.underlying24⟩ Try.underlying3 rfl).val (nw_i64 BDp BDp)) ?_ | refine al_opd rfl rfl rfl (ao_conv ⟨_, Try.underlying24⟩ Try.underlying3 rfl) ?_
    first | refine al_opd rfl rfl rfl ((ao_sub rfl rfl).val (nw_i64 BDp BDp)) ?_ | refine al_opd rfl rfl rfl (ao_sub rfl rfl) ?_
    refine al_opd rfl rfl rfl (ao_as (v := .int _ _) rfl) ?_
    refine al_nilT ?_
    refine aw_ret ?_
    refine ends1 rfl (rv_tmp (v := .int _ _) rfl) ?_
    exact ⟨by unfold cmpS; rw [if_pos (by simpa using h1_)], by exact SMp⟩

end Go.Proofs.Ytmafkbminigbcaa
