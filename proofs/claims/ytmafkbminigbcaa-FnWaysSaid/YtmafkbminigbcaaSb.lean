/- Contracts of the program's functions over abstract heaps. -/
import Derived.Test.YtmafkbminigbcaaBfs4
import Derived.Test.YtmafkbminigbcaaVr
import Derived.Test.YtmafkbminigbcaaFn
import Derived.Test.YtmafkbminigbcaaSt
import Derived.Test.YtmafkbminigbcaaSt2
namespace Go.Proofs.Ytmafkbminigbcaa
open Go Go.AW Go.Proofs
set_option linter.unusedVariables false
set_option linter.unusedSimpArgs false
set_option maxRecDepth 100000
set_option maxHeartbeats 2000000

-- spec.l01Two
theorem l01Two_c {r : Room} {a b : Spot} {pb0 : Nat} {c : Int} {H : AHeap} (hp0 : H.blk pb0 = some (.cells (roomC r) 1)) (hw : wfRoom r) (hwa : wfSpot a) (hwb : wfSpot b) (hcc : twoC r a b c) : ACd Try.prog 31 [.pointer (some ⟨pb0, 0, none⟩), .agg #[.int .i8 a.x, .int .i8 a.y], .agg #[.int .i8 b.x, .int .i8 b.y]] H (.int .i64 c) (H) := by
  obtain ⟨k1, hk1⟩ := exists_askC r a true
  obtain ⟨k2, hk2⟩ := exists_askC r b true
  have hfa := freeB_iff r a
  have hfb := freeB_iff r b
  refine ac_gc0 (fun β => VR.plainT β (by first | rfl | simp [plainT, plainV, plain1])) (ac_body Try.func31 rfl Try.ntmps31 rfl ?_)
  refine aw_seq ?_
  refine aw_region ?_
  refine al_opd rfl rfl rfl (ao_boxa (by rfl)) ?_
  refine al_opd rfl rfl rfl (ao_boxa (by rfl)) ?_
  refine al_opd rfl rfl rfl (ao_as (v := .int _ _) rfl) ?_
  refine al_nilT ?_
  refine aw_seq ?_
  refine aw_region ?_
  refine al_opd rfl rfl rfl (ao_mv (v := .pointer _) rfl) ?_
  refine al_opd rfl rfl rfl (ao_loada Try.isAgg31 Try.sizeOf31 rfl (by exact HLp) (by rfl) (by exact RFp)) ?_
  refine al_opd rfl rfl rfl (ao_calld (l01Asked_c (r := r) (s := a) (fine := true) (c := k1) (by exact HLp) hw hwa hk1) Try.call62 rfl rfl) ?_
  refine al_opd rfl rfl rfl (ao_as (v := .int _ _) rfl) ?_
  refine al_nilT ?_
  refine aw_seq ?_
  refine aw_seq ?_
  refine aw_region ?_
  refine al_opd rfl rfl rfl (ao_mv (v := .int _ _) rfl) ?_
  refine al_opd rfl rfl rfl (ao_eql rfl rfl) ?_
  refine al_nilT ?_
  refine aw_cond rfl (fun h1_ => ?_) (fun h1_ => ?_)
  · try simp only [nrm] at h1_
    have hok : okRoom r := by rcases hk1 with ⟨q, e⟩ | ⟨q, q2, e⟩ | ⟨q, q2, q3, e⟩ <;> first | exact q | (exfalso; omega)
    refine aw_region ?_
    refine al_opd rfl rfl rfl (ao_mv (v := .pointer _) rfl) ?_
    refine al_opd rfl rfl rfl (ao_loada Try.isAgg31 Try.sizeOf31 rfl (by exact HLp) (by rfl) (by exact RFp)) ?_
    refine al_opd rfl rfl rfl (ao_calld (l01Asked_c (r := r) (s := b) (fine := true) (c := k2) (by exact HLp) hw hwb hk2) Try.call62 rfl rfl) ?_
    refine al_opd rfl rfl rfl (ao_as (v := .int _ _) rfl) ?_
    refine al_nilT ?_
    refine aw_seq ?_
    refine aw_seq ?_
    refine aw_region ?_
    refine al_opd rfl rfl rfl (ao_mv (v := .int _ _) rfl) ?_
    refine al_opd rfl rfl rfl (ao_eql rfl rfl) ?_
    refine al_opd rfl rfl rfl (ao_mv (v := .bool _) rfl) ?_
    refine al_cases (d := 18) rfl (fun h2_ => ?_) (fun h2_ => ?_)
    · try simp only [nrm] at h2_
      refine al_gyes rfl rfl rfl rfl rfl (ao_mv (v := .pointer _) rfl) ?_
      refine al_gyes rfl rfl rfl rfl rfl (ao_loada Try.isAgg31 Try.sizeOf31 rfl (by exact HLp) (by rfl) (by exact RFp)) ?_
      refine al_gyes rfl rfl rfl rfl rfl (ao_calld (l01Free_c (r := r) (s := a) (b := freeB r a) (by exact HLp) hok hw hwa (freeB_iff r a)) Try.call44 rfl rfl) ?_
      refine al_gyes rfl rfl rfl rfl rfl (ao_not rfl) ?_
      refine al_gyes rfl rfl rfl rfl rfl (ao_mv (v := .bool _) rfl) ?_
      refine al_cases (d := 23) rfl (fun h3_ => ?_) (fun h3_ => ?_)
      · try simp only [nrm] at h3_
        refine al_gno rfl rfl rfl rfl rfl ?_
        refine al_gno rfl rfl rfl rfl rfl ?_
        refine al_gno rfl rfl rfl rfl rfl ?_
        refine al_gno rfl rfl rfl rfl rfl ?_
        refine al_gyes rfl rfl rfl rfl rfl (ao_pickT rfl (v := .bool _) rfl) ?_
        refine al_opd rfl rfl rfl (ao_pickT rfl (v := .bool _) rfl) ?_
        refine al_nilT ?_
        refine aw_condT (by rfl) ⟨_, rfl⟩ ?_
        refine aw_region ?_
        refine al_opd rfl rfl rfl (ao_as (v := .int _ _) rfl) ?_
        refine al_nilT ?_
        refine aw_seq ?_
        refine aw_region ?_
        refine al_opd rfl rfl rfl (ao_mv (v := .int _ _) rfl) ?_
        refine al_opd rfl rfl rfl (ao_as (v := .int _ _) rfl) ?_
        refine al_nilT ?_
        refine aw_ret ?_
        refine ends1 rfl (rv_tmp (v := .int _ _) rfl) ?_
        exact ⟨by rcases hcc with ⟨q, e⟩ | ⟨q, q2, e⟩ | ⟨q, q2, q3, q4, e⟩ | ⟨q, q2, q3, q4, q5, e⟩ <;> subst e <;> rcases hk1 with ⟨p, e⟩ | ⟨p, p2, e⟩ | ⟨p, p2, p3, e⟩ <;> subst e <;> rcases hk2 with ⟨o, e⟩ | ⟨o, o2, e⟩ | ⟨o, o2, o3, e⟩ <;> subst e <;> first | rfl | (exfalso; simp_all; (first | done | fail)), by exact SMp⟩
      · try simp only [nrm] at h3_
        refine al_gyes rfl rfl rfl rfl rfl (ao_mv (v := .pointer _) rfl) ?_
        refine al_gyes rfl rfl rfl rfl rfl (ao_loada Try.isAgg31 Try.sizeOf31 rfl (by exact HLp) (by rfl) (by exact RFp)) ?_
        refine al_gyes rfl rfl rfl rfl rfl (ao_calld (l01Free_c (r := r) (s := b) (b := freeB r b) (by exact HLp) hok hw hwb (freeB_iff r b)) Try.call44 rfl rfl) ?_
        refine al_gyes rfl rfl rfl rfl rfl (ao_not rfl) ?_
        refine al_gyes rfl rfl rfl rfl rfl (ao_pickF rfl (v := .bool _) rfl) ?_
        refine al_opd rfl rfl rfl (ao_pickT rfl (v := .bool _) rfl) ?_
        refine al_nilT ?_
        refine aw_cond rfl (fun h4_ => ?_) (fun h4_ => ?_)
        · try simp only [nrm] at h4_
          refine aw_region ?_
          refine al_opd rfl rfl rfl (ao_as (v := .int _ _) rfl) ?_
          refine al_nilT ?_
          refine aw_seq ?_
          refine aw_region ?_
          refine al_opd rfl rfl rfl (ao_mv (v := .int _ _) rfl) ?_
          refine al_opd rfl rfl rfl (ao_as (v := .int _ _) rfl) ?_
          refine al_nilT ?_
          refine aw_ret ?_
          refine ends1 rfl (rv_tmp (v := .int _ _) rfl) ?_
          exact ⟨by rcases hcc with ⟨q, e⟩ | ⟨q, q2, e⟩ | ⟨q, q2, q3, q4, e⟩ | ⟨q, q2, q3, q4, q5, e⟩ <;> subst e <;> rcases hk1 with ⟨p, e⟩ | ⟨p, p2, e⟩ | ⟨p, p2, p3, e⟩ <;> subst e <;> rcases hk2 with ⟨o, e⟩ | ⟨o, o2, e⟩ | ⟨o, o2, o3, e⟩ <;> subst e <;> first | rfl | (exfalso; simp_all; (first | done | fail)), by exact SMp⟩
        · try simp only [nrm] at h4_
          refine aw_skipT ?_
          refine aw_seq ?_
          refine aw_region ?_
          refine al_opd rfl rfl rfl (ao_mv (v := .int _ _) rfl) ?_
          refine al_opd rfl rfl rfl (ao_as (v := .int _ _) rfl) ?_
          refine al_nilT ?_
          refine aw_ret ?_
          refine ends1 rfl (rv_tmp (v := .int _ _) rfl) ?_
          exact ⟨by rcases hcc with ⟨q, e⟩ | ⟨q, q2, e⟩ | ⟨q, q2, q3, q4, e⟩ | ⟨q, q2, q3, q4, q5, e⟩ <;> subst e <;> rcases hk1 with ⟨p, e⟩ | ⟨p, p2, e⟩ | ⟨p, p2, p3, e⟩ <;> subst e <;> rcases hk2 with ⟨o, e⟩ | ⟨o, o2, e⟩ | ⟨o, o2, o3, e⟩ <;> subst e <;> first | rfl | (exfalso; simp_all; (first | done | fail)), by exact SMp⟩
    · try simp only [nrm] at h2_
      refine al_gno rfl rfl rfl rfl rfl ?_
      refine al_gno rfl rfl rfl rfl rfl ?_
      refine al_gno rfl rfl rfl rfl rfl ?_
      refine al_gno rfl rfl rfl rfl rfl ?_
      refine al_gno rfl rfl rfl rfl rfl ?_
      refine al_gnu rfl rfl rfl rfl ?_
      refine al_gnu rfl rfl rfl rfl ?_
      refine al_gnu rfl rfl rfl rfl ?_
      refine al_gnu rfl rfl rfl rfl ?_
      refine al_gno rfl rfl rfl rfl rfl ?_
      refine al_opd rfl rfl rfl (ao_pickF rfl (v := .bool _) rfl) ?_
      refine al_nilT ?_
      refine aw_condF (by rfl) ⟨_, rfl⟩ ?_
      refine aw_skipT ?_
      refine aw_seq ?_
      refine aw_region ?_
      refine al_opd rfl rfl rfl (ao_mv (v := .int _ _) rfl) ?_
      refine al_opd rfl rfl rfl (ao_as (v := .int _ _) rfl) ?_
      refine al_nilT ?_
      refine aw_ret ?_
      refine ends1 rfl (rv_tmp (v := .int _ _) rfl) ?_
      exact ⟨by rcases hcc with ⟨q, e⟩ | ⟨q, q2, e⟩ | ⟨q, q2, q3, q4, e⟩ | ⟨q, q2, q3, q4, q5, e⟩ <;> subst e <;> rcases hk1 with ⟨p, e⟩ | ⟨p, p2, e⟩ | ⟨p, p2, p3, e⟩ <;> subst e <;> rcases hk2 with ⟨o, e⟩ | ⟨o, o2, e⟩ | ⟨o, o2, o3, e⟩ <;> subst e <;> first | rfl | (exfalso; simp_all; (first | done | fail)), by exact SMp⟩
  · try simp only [nrm] at h1_
    refine aw_skipT ?_
    refine aw_seq ?_
    refine aw_seq ?_
    refine aw_region ?_
    refine al_opd rfl rfl rfl (ao_mv (v := .int _ _) rfl) ?_
    refine al_opd rfl rfl rfl (ao_eql rfl rfl) ?_
    refine al_opd rfl rfl rfl (ao_mv (v := .bool _) rfl) ?_
    refine al_cases (d := 18) rfl (fun h5_ => ?_) (fun h5_ => ?_)
    · try simp only [nrm] at h5_
      exact absurd h5_ h1_
    try simp only [nrm] at h5_
    refine al_gno rfl rfl rfl rfl rfl ?_
    refine al_gno rfl rfl rfl rfl rfl ?_
    refine al_gno rfl rfl rfl rfl rfl ?_
    refine al_gno rfl rfl rfl rfl rfl ?_
    refine al_gno rfl rfl rfl rfl rfl ?_
    refine al_gnu rfl rfl rfl rfl ?_
    refine al_gnu rfl rfl rfl rfl ?_
    refine al_gnu rfl rfl rfl rfl ?_
    refine al_gnu rfl rfl rfl rfl ?_
    refine al_gno rfl rfl rfl rfl rfl ?_
    refine al_opd rfl rfl rfl (ao_pickF rfl (v := .bool _) rfl) ?_
    refine al_nilT ?_
    refine aw_condF (by rfl) ⟨_, rfl⟩ ?_
    refine aw_skipT ?_
    refine aw_seq ?_
    refine aw_region ?_
    refine al_opd rfl rfl rfl (ao_mv (v := .int _ _) rfl) ?_
    refine al_opd rfl rfl rfl (ao_as (v := .int _ _) rfl) ?_
    refine al_nilT ?_
    refine aw_ret ?_
    refine ends1 rfl (rv_tmp (v := .int _ _) rfl) ?_
    exact ⟨by rcases hcc with ⟨q, e⟩ | ⟨q, q2, e⟩ | ⟨q, q2, q3, q4, e⟩ | ⟨q, q2, q3, q4, q5, e⟩ <;> subst e <;> rcases hk1 with ⟨p, e⟩ | ⟨p, p2, e⟩ | ⟨p, p2, p3, e⟩ <;> subst e <;> rcases hk2 with ⟨o, e⟩ | ⟨o, o2, e⟩ | ⟨o, o2, o3, e⟩ <;> subst e <;> first | rfl | (exfalso; simp_all; (first | done | fail)), by exact SMp⟩

-- spec.StepsBetween
theorem specSteps1_c {r : Room} {a b : Spot} {v : Int} {H : AHeap} (hw : wfRoom r) (hwa : wfSpot a) (hwb : wfSpot b) (hcc : twoC r a b 0) (hv : mget (found r a) b = some v) : ACd Try.prog 8 [.agg (roomC r).toArray, .agg #[.int .i8 a.x, .int .i8 a.y], .agg #[.int .i8 b.x, .int .i8 b.y]] H (.tuple #[.int .i64 v, .int .i64 0]) (H) := by
  have ⟨hr, hfa, hfb⟩ := two_ok hcc
  have hcb := cell10_of hfb
  have ⟨c1, c2, c3, c4⟩ := hcb
  have hfv : farF (found r a) (ix b) = v := far_at (p := (b, v)) hcb hv
  have hvp := found_pos hfa hv
  refine ac_gc0 (fun β => VR.plainT β (by first | rfl | simp [plainT, plainV, plain1])) (ac_body Try.func8 rfl Try.ntmps8 rfl ?_)
  refine aw_seq ?_
  refine aw_region ?_
  refine al_opd rfl rfl rfl (ao_boxa (by rfl)) ?_
  refine al_opd rfl rfl rfl (ao_boxa (by rfl)) ?_
  refine al_opd rfl rfl rfl (ao_boxa (by rfl)) ?_
  refine al_opd rfl rfl rfl (ao_as (v := .int _ _) rfl) ?_
  refine al_opd rfl rfl rfl (ao_as (v := .int _ _) rfl) ?_
  refine al_nilT ?_
  refine aw_seq ?_
  refine aw_seq ?_
  refine aw_region ?_
  refine al_opd rfl rfl rfl (ao_loada Try.isAgg31 Try.sizeOf31 rfl (by exact HLp) (by rfl) (by first | rfl | exact grid_at hcb | (simp; (first | done | fail)))) ?_
  refine al_opd rfl rfl rfl (ao_loada Try.isAgg31 Try.sizeOf31 rfl (by exact HLp) (by rfl) (by first | rfl | exact grid_at hcb | (simp; (first | done | fail)))) ?_
  refine al_opd rfl rfl rfl (ao_calld (l01Two_c (r := r) (a := a) (b := b) (c := 0) (by exact HLp) hw hwa hwb hcc) Try.call31 rfl rfl) ?_
  refine al_opd rfl rfl rfl (ao_as (v := .int _ _) rfl) ?_
  refine al_nilT ?_
  refine aw_seq ?_
  refine aw_region ?_
  refine al_opd rfl rfl rfl (ao_mv (v := .int _ _) rfl) ?_
  refine al_opd rfl rfl rfl (ao_neq rfl rfl) ?_
  refine al_nilT ?_
  refine aw_cond rfl (fun h1_ => ?_) (fun h1_ => ?_)
  · try simp only [nrm] at h1_
    first | done | omega | (exfalso; revert h1_; simp; (first | done | omega))
  try simp only [nrm] at h1_
  refine aw_skipT ?_
  refine aw_seq ?_
  refine aw_region ?_
  refine al_opd rfl rfl rfl (ao_loada Try.isAgg31 Try.sizeOf31 rfl (by exact HLp) (by rfl) (by first | rfl | exact grid_at hcb | (simp; (first | done | fail)))) ?_
  refine al_opd rfl rfl rfl (ao_calld (l01Steps_c (r := r) (s := a) (by exact HLp) hr hw hwa hfa) Try.call32 rfl rfl) ?_
  refine al_opd rfl rfl rfl (ao_alloca (zv64) (by rfl)) ?_
  first | refine al_opd rfl rfl rfl ((ao_storeL Try.sizeOf64 (by rfl) (by rfl) (by exact HLp) (by first | rfl | exact grid_at hcb | (simp; (first | done | fail))) (by first | rfl | exact grid_at hcb | (simp; (first | done | fail))) (by first | rfl | exact grid_at hcb | (simp; (first | done | fail)))).to (SetR.eq (by exact SRp))) ?_ | refine al_opd rfl rfl rfl ((ao_storeP (ds := [.int _ _, .int _ _, .int _ _, .int _ _, .int _ _, .int _ _, .int _ _, .int _ _, .int _ _, .int _ _, .int _ _, .int _ _, .int _ _, .int _ _, .int _ _, .int _ _, .int _ _, .int _ _, .int _ _, .int _ _, .int _ _, .int _ _, .int _ _, .int _ _, .int _ _, .int _ _, .int _ _, .int _ _, .int _ _, .int _ _, .int _ _, .int _ _, .int _ _, .int _ _, .int _ _, .int _ _, .int _ _, .int _ _, .int _ _, .int _ _, .int _ _, .int _ _, .int _ _, .int _ _, .int _ _, .int _ _, .int _ _, .int _ _, .int _ _, .int _ _, .int _ _, .int _ _, .int _ _, .int _ _, .int _ _, .int _ _, .int _ _, .int _ _, .int _ _, .int _ _, .int _ _, .int _ _, .int _ _, .int _ _, .int _ _, .int _ _, .int _ _, .int _ _, .int _ _, .int _ _, .int _ _, .int _ _, .int _ _, .int _ _, .int _ _, .int _ _, .int _ _, .int _ _, .int _ _, .int _ _, .int _ _, .int _ _, .int _ _, .int _ _, .int _ _, .int _ _, .int _ _, .int _ _, .int _ _, .int _ _, .int _ _, .int _ _, .int _ _, .int _ _, .int _ _, .int _ _, .int _ _, .int _ _, .int _ _, .int _ _]) Try.sizeOf64 (by rfl) (by rfl) (by exact HLp) (by first | rfl | exact grid_at hcb | (simp; (first | done | fail))) (by first | rfl | exact grid_at hcb | (simp; (first | done | fail))) (by exact LTp)).to (SetR.eq (by exact SRp))) ?_
  refine al_nilT ?_
  refine aw_seq ?_
  refine aw_seq ?_
  refine aw_draw (m := 8) mo (by kernel_rfl) rfl (fun _ _ _ h => h) ?_
  refine dw_opd rfl rfl rfl (ao_fieldAddr fo_31_1 rfl) ?_
  refine dw_opd rfl rfl rfl (ao_load (v := .int _ _) Try.isAgg24 (by rfl) (by exact HLp) (by rfl) (by first | rfl | exact grid_at hcb | (simp; (first | done | fail)))) ?_
  refine dw_opd rfl rfl rfl (ao_fieldAddr fo_31_0 rfl) ?_
  refine dw_opd rfl rfl rfl (ao_load (v := .int _ _) Try.isAgg24 (by rfl) (by exact HLp) (by rfl) (by first | rfl | exact grid_at hcb | (simp; (first | done | fail)))) ?_
  refine dw_opd rfl rfl rfl (ao_indexAddrA Try.underlying64 Try.sizeOf63 rfl rfl (by exact IXp) (by exact IXp)) ?_
  refine dw_opd rfl rfl rfl (ao_indexAddrA Try.underlying63 Try.sizeOf2 rfl rfl (by exact IXp) (by exact IXp)) ?_
  refine dw_opd rfl rfl rfl (ao_load (v := .int _ _) Try.isAgg2 (by rfl) (by exact HLp) (by rfl) (by first | rfl | exact grid_at hcb | (simp; (first | done | fail)))) ?_
  refine dw_opd rfl rfl rfl (ao_lss rfl rfl) ?_
  refine dw_end ?_
  refine al_nilT ?_
  refine aw_cond rfl (fun h2_ => ?_) (fun h2_ => ?_)
  · try simp only [nrm] at h2_
    omega
  try simp only [nrm] at h2_
  refine aw_skipT ?_
  refine aw_seq ?_
  refine aw_draw (m := 9) mo (by kernel_rfl) rfl (fun _ _ _ h => h) ?_
  refine dw_opd rfl rfl rfl (ao_fieldAddr fo_31_1 rfl) ?_
  refine dw_opd rfl rfl rfl (ao_load (v := .int _ _) Try.isAgg24 (by rfl) (by exact HLp) (by rfl) (by first | rfl | exact grid_at hcb | (simp; (first | done | fail)))) ?_
  refine dw_opd rfl rfl rfl (ao_fieldAddr fo_31_0 rfl) ?_
  refine dw_opd rfl rfl rfl (ao_load (v := .int _ _) Try.isAgg24 (by rfl) (by exact HLp) (by rfl) (by first | rfl | exact grid_at hcb | (simp; (first | done | fail)))) ?_
  refine dw_opd rfl rfl rfl (ao_indexAddrA Try.underlying64 Try.sizeOf63 rfl rfl (by exact IXp) (by exact IXp)) ?_
  refine dw_opd rfl rfl rfl (ao_indexAddrA Try.underlying63 Try.sizeOf2 rfl rfl (by exact IXp) (by exact IXp)) ?_
  refine dw_opd rfl rfl rfl (ao_load (v := .int _ _) Try.isAgg2 (by rfl) (by exact HLp) (by rfl) (by first | rfl | exact grid_at hcb | (simp; (first | done | fail)))) ?_
  refine dw_opd rfl rfl rfl (ao_as (v := .int _ _) rfl) ?_
  refine dw_opd rfl rfl rfl (ao_as (v := .int _ _) rfl) ?_
  refine dw_end ?_
  refine al_nilT ?_
  refine aw_ret ?_
  refine ends2 rfl (rv_tmp (v := .int _ _) rfl) (rv_tmp (v := .int _ _) rfl) ?_
  exact ⟨by rw [hfv], by exact SMp⟩

-- spec.StepsBetween
theorem specSteps6_c {r : Room} {a b : Spot} {H : AHeap} (hw : wfRoom r) (hwa : wfSpot a) (hwb : wfSpot b) (hcc : twoC r a b 0) (hv : mget (found r a) b = none) : ACd Try.prog 8 [.agg (roomC r).toArray, .agg #[.int .i8 a.x, .int .i8 a.y], .agg #[.int .i8 b.x, .int .i8 b.y]] H (.tuple #[.int .i64 0, .int .i64 6]) (H) := by
  have ⟨hr, hfa, hfb⟩ := two_ok hcc
  have hcb := cell10_of hfb
  have ⟨c1, c2, c3, c4⟩ := hcb
  have hfv : farF (found r a) (ix b) = -1 := by rw [farF_ix _ hcb]; unfold farOf; rw [hv]; rfl
  refine ac_gc0 (fun β => VR.plainT β (by first | rfl | simp [plainT, plainV, plain1])) (ac_body Try.func8 rfl Try.ntmps8 rfl ?_)
  refine aw_seq ?_
  refine aw_region ?_
  refine al_opd rfl rfl rfl (ao_boxa (by rfl)) ?_
  refine al_opd rfl rfl rfl (ao_boxa (by rfl)) ?_
  refine al_opd rfl rfl rfl (ao_boxa (by rfl)) ?_
  refine al_opd rfl rfl rfl (ao_as (v := .int _ _) rfl) ?_
  refine al_opd rfl rfl rfl (ao_as (v := .int _ _) rfl) ?_
  refine al_nilT ?_
  refine aw_seq ?_
  refine aw_seq ?_
  refine aw_region ?_
  refine al_opd rfl rfl rfl (ao_loada Try.isAgg31 Try.sizeOf31 rfl (by exact HLp) (by rfl) (by first | rfl | exact grid_at hcb | (simp; (first | done | fail)))) ?_
  refine al_opd rfl rfl rfl (ao_loada Try.isAgg31 Try.sizeOf31 rfl (by exact HLp) (by rfl) (by first | rfl | exact grid_at hcb | (simp; (first | done | fail)))) ?_
  refine al_opd rfl rfl rfl (ao_calld (l01Two_c (r := r) (a := a) (b := b) (c := 0) (by exact HLp) hw hwa hwb hcc) Try.call31 rfl rfl) ?_
  refine al_opd rfl rfl rfl (ao_as (v := .int _ _) rfl) ?_
  refine al_nilT ?_
  refine aw_seq ?_
  refine aw_region ?_
  refine al_opd rfl rfl rfl (ao_mv (v := .int _ _) rfl) ?_
  refine al_opd rfl rfl rfl (ao_neq rfl rfl) ?_
  refine al_nilT ?_
  refine aw_cond rfl (fun h1_ => ?_) (fun h1_ => ?_)
  · try simp only [nrm] at h1_
    first | done | omega | (exfalso; revert h1_; simp; (first | done | omega))
  try simp only [nrm] at h1_
  refine aw_skipT ?_
  refine aw_seq ?_
  refine aw_region ?_
  refine al_opd rfl rfl rfl (ao_loada Try.isAgg31 Try.sizeOf31 rfl (by exact HLp) (by rfl) (by first | rfl | exact grid_at hcb | (simp; (first | done | fail)))) ?_
  refine al_opd rfl rfl rfl (ao_calld (l01Steps_c (r := r) (s := a) (by exact HLp) hr hw hwa hfa) Try.call32 rfl rfl) ?_
  refine al_opd rfl rfl rfl (ao_alloca (zv64) (by rfl)) ?_
  first | refine al_opd rfl rfl rfl ((ao_storeL Try.sizeOf64 (by rfl) (by rfl) (by exact HLp) (by first | rfl | exact grid_at hcb | (simp; (first | done | fail))) (by first | rfl | exact grid_at hcb | (simp; (first | done | fail))) (by first | rfl | exact grid_at hcb | (simp; (first | done | fail)))).to (SetR.eq (by exact SRp))) ?_ | refine al_opd rfl rfl rfl ((ao_storeP (ds := [.int _ _, .int _ _, .int _ _, .int _ _, .int _ _, .int _ _, .int _ _, .int _ _, .int _ _, .int _ _, .int _ _, .int _ _, .int _ _, .int _ _, .int _ _, .int _ _, .int _ _, .int _ _, .int _ _, .int _ _, .int _ _, .int _ _, .int _ _, .int _ _, .int _ _, .int _ _, .int _ _, .int _ _, .int _ _, .int _ _, .int _ _, .int _ _, .int _ _, .int _ _, .int _ _, .int _ _, .int _ _, .int _ _, .int _ _, .int _ _, .int _ _, .int _ _, .int _ _, .int _ _, .int _ _, .int _ _, .int _ _, .int _ _, .int _ _, .int _ _, .int _ _, .int _ _, .int _ _, .int _ _, .int _ _, .int _ _, .int _ _, .int _ _, .int _ _, .int _ _, .int _ _, .int _ _, .int _ _, .int _ _, .int _ _, .int _ _, .int _ _, .int _ _, .int _ _, .int _ _, .int _ _, .int _ _, .int _ _, .int _ _, .int _ _, .int _ _, .int _ _, .int _ _, .int _ _, .int _ _, .int _ _, .int _ _, .int _ _, .int _ _, .int _ _, .int _ _, .int _ _, .int _ _, .int _ _, .int _ _, .int _ _, .int _ _, .int _ _, .int _ _, .int _ _, .int _ _, .int _ _, .int _ _, .int _ _, .int _ _]) Try.sizeOf64 (by rfl) (by rfl) (by exact HLp) (by first | rfl | exact grid_at hcb | (simp; (first | done | fail))) (by first | rfl | exact grid_at hcb | (simp; (first | done | fail))) (by exact LTp)).to (SetR.eq (by exact SRp))) ?_
  refine al_nilT ?_
  refine aw_seq ?_
  refine aw_seq ?_
  refine aw_draw (m := 8) mo (by kernel_rfl) rfl (fun _ _ _ h => h) ?_
  refine dw_opd rfl rfl rfl (ao_fieldAddr fo_31_1 rfl) ?_
  refine dw_opd rfl rfl rfl (ao_load (v := .int _ _) Try.isAgg24 (by rfl) (by exact HLp) (by rfl) (by first | rfl | exact grid_at hcb | (simp; (first | done | fail)))) ?_
  refine dw_opd rfl rfl rfl (ao_fieldAddr fo_31_0 rfl) ?_
  refine dw_opd rfl rfl rfl (ao_load (v := .int _ _) Try.isAgg24 (by rfl) (by exact HLp) (by rfl) (by first | rfl | exact grid_at hcb | (simp; (first | done | fail)))) ?_
  refine dw_opd rfl rfl rfl (ao_indexAddrA Try.underlying64 Try.sizeOf63 rfl rfl (by exact IXp) (by exact IXp)) ?_
  refine dw_opd rfl rfl rfl (ao_indexAddrA Try.underlying63 Try.sizeOf2 rfl rfl (by exact IXp) (by exact IXp)) ?_
  refine dw_opd rfl rfl rfl (ao_load (v := .int _ _) Try.isAgg2 (by rfl) (by exact HLp) (by rfl) (by first | rfl | exact grid_at hcb | (simp; (first | done | fail)))) ?_
  refine dw_opd rfl rfl rfl (ao_lss rfl rfl) ?_
  refine dw_end ?_
  refine al_nilT ?_
  refine aw_cond rfl (fun h2_ => ?_) (fun h2_ => ?_)
  rotate_left
  · try simp only [nrm] at h2_
    omega
  try simp only [nrm] at h2_
  refine aw_seq ?_
  refine aw_region ?_
  refine al_opd rfl rfl rfl (ao_as (v := .int _ _) rfl) ?_
  refine al_opd rfl rfl rfl (ao_as (v := .int _ _) rfl) ?_
  refine al_nilT ?_
  refine aw_ret ?_
  refine thenA_r ?_
  refine ends2 rfl (rv_tmp (v := .int _ _) rfl) (rv_tmp (v := .int _ _) rfl) ?_
  exact ⟨by first | rfl | (simp [*]; (first | done | fail)), by exact SMp⟩

-- impl.StepsBetween
theorem implSteps1b_c {r : Room} {a b : Spot} {v : Int} {H : AHeap} (hw : wfRoom r) (hwa : wfSpot a) (hwb : wfSpot b) (hcc : twoC r a b 0) (hv : mget (found r a) b = some v) : ACd Try.prog 7 [.agg (roomC r).toArray, .agg #[.int .i8 a.x, .int .i8 a.y], .agg #[.int .i8 b.x, .int .i8 b.y]] H (.tuple #[.int .i64 v, .int .i64 0]) (H) := by
  obtain ⟨c1, hc1⟩ := exists_cellC r [a, b]
  obtain ⟨c3, hc3⟩ := exists_stateC r [a, b]
  have ⟨hr, hfa, hfb⟩ := two_ok hcc
  refine ac_gc0 (fun β => VR.plainT β (by first | rfl | simp [plainT, plainV, plain1])) (ac_body Try.func7 rfl Try.ntmps7 rfl ?_)
  refine aw_seq ?_
  refine aw_region ?_
  refine al_opd rfl rfl rfl (ao_boxa (by rfl)) ?_
  refine al_opd rfl rfl rfl (ao_boxa (by rfl)) ?_
  refine al_opd rfl rfl rfl (ao_boxa (by rfl)) ?_
  refine al_opd rfl rfl rfl (ao_as (v := .int _ _) rfl) ?_
  refine al_opd rfl rfl rfl (ao_as (v := .int _ _) rfl) ?_
  refine al_nilT ?_
  refine aw_seq ?_
  refine aw_seq ?_
  refine aw_draw (m := 13) mo (by kernel_rfl) rfl (fun _ _ _ h => h) ?_
  refine dw_opd rfl rfl rfl (ao_loada Try.isAgg28 Try.sizeOf28 rfl (by exact HLp) (by rfl) (by exact RFp)) ?_
  refine dw_opd rfl rfl rfl (ao_loada Try.isAgg31 Try.sizeOf31 rfl (by exact HLp) (by rfl) (by exact RFp)) ?_
  refine dw_opd rfl rfl rfl (ao_loada Try.isAgg31 Try.sizeOf31 rfl (by exact HLp) (by rfl) (by exact RFp)) ?_
  refine dw_opn rfl rfl rfl (ao_buildSlice (A := #[.int .i8 a.x, .int .i8 a.y, .int .i8 b.x, .int .i8 b.y]) Try.underlying35 Try.sizeOf31 Try.zeroValue31 (by rfl) (by rfl) (by decide) (by decide) (by rfl) (by first | rfl | kernel_rfl)) ?_
  refine dw_opd rfl rfl rfl (ao_calld (cellCode_c (r := r) (l := [a, b]) (c := c1) hw (two_len (r := r) hwa hwb) (Sl.full spot_len (by exact HLp) rfl rfl rfl) (by simp) hc1) Try.call28 rfl rfl) ?_
  refine dw_opd rfl rfl rfl (ao_loada Try.isAgg28 Try.sizeOf28 rfl (by exact HLp) (by rfl) (by exact RFp)) ?_
  refine dw_opd rfl rfl rfl (ao_loada Try.isAgg31 Try.sizeOf31 rfl (by exact HLp) (by rfl) (by exact RFp)) ?_
  refine dw_opd rfl rfl rfl (ao_loada Try.isAgg31 Try.sizeOf31 rfl (by exact HLp) (by rfl) (by exact RFp)) ?_
  refine dw_opn rfl rfl rfl (ao_buildSlice (A := #[.int .i8 a.x, .int .i8 a.y, .int .i8 b.x, .int .i8 b.y]) Try.underlying35 Try.sizeOf31 Try.zeroValue31 (by rfl) (by rfl) (by decide) (by decide) (by rfl) (by first | rfl | kernel_rfl)) ?_
  refine dw_opd rfl rfl rfl (ao_calld (stateCode_c (r := r) (l := [a, b]) (c := c3) hw (two_len (r := r) hwa hwb) (Sl.full spot_len (by exact HLp) rfl rfl rfl) (by simp) hc3) Try.call29 rfl rfl) ?_
  refine dw_opn rfl rfl rfl (ao_buildSlice (A := #[.int .i64 c1, .int .i64 c3]) Try.underlying87 Try.sizeOf2 Try.zeroValue2 (by rfl) (by rfl) (by decide) (by decide) (by rfl) (by first | rfl | kernel_rfl)) ?_
  refine dw_opd rfl rfl rfl (ao_calld (ACd.val (firstOf_c (l := [c1, c3]) (Sl.full i64_len (by exact HLp) rfl rfl rfl) (by simp)) (congrArg (Value.int .i64) (two_first hcc hc1 hc3))) Try.call27 rfl rfl) ?_
  refine dw_opd rfl rfl rfl (ao_as (v := .int _ _) rfl) ?_
  refine dw_end ?_
  refine al_nilT ?_
  refine aw_seq ?_
  refine aw_region ?_
  refine al_opd rfl rfl rfl (ao_mv (v := .int _ _) rfl) ?_
  refine al_opd rfl rfl rfl (ao_neq rfl rfl) ?_
  refine al_nilT ?_
  refine aw_cond rfl (fun h1_ => ?_) (fun h1_ => ?_)
  · try simp only [nrm] at h1_
    first | done | omega | (exfalso; revert h1_; simp; (first | done | omega))
  try simp only [nrm] at h1_
  refine aw_skipT ?_
  refine aw_seq ?_
  refine aw_draw (m := 10) mo (by kernel_rfl) rfl (fun _ _ _ h => h) ?_
  refine dw_opd rfl rfl rfl (ao_loada Try.isAgg28 Try.sizeOf28 rfl (by exact HLp) (by rfl) (by exact RFp)) ?_
  refine dw_opd rfl rfl rfl (ao_loada Try.isAgg31 Try.sizeOf31 rfl (by exact HLp) (by rfl) (by exact RFp)) ?_
  refine dw_opn rfl rfl rfl (ao_calld (implSteps_c (r := r) (s := a) hw hwa hfa) Try.call30 rfl rfl) ?_
  refine dw_opd rfl rfl rfl (ao_loada Try.isAgg31 Try.sizeOf31 rfl (by exact HLp) (by rfl) (by exact RFp)) ?_
  refine dw_opd rfl rfl rfl (ao_look2 (m := found r a) (k := b) (u := .int .i64 v) (ok := true) (ke := spV) (ve := ivV) Try.underlying60 keySpot_c (fun _ => rfl) Try.zeroValue2 (by rfl) (by rfl) (by rfl) (by exact HLp) (.inr ⟨v, hv, rfl, rfl⟩)) ?_
  refine dw_opd rfl rfl rfl (ao_mv (v := .tuple _) rfl) ?_
  refine dw_opd rfl rfl rfl (ao_extract (v := .int _ _) rfl rfl) ?_
  refine dw_opd rfl rfl rfl (ao_extract (v := .bool _) rfl rfl) ?_
  refine dw_opd rfl rfl rfl (ao_as (v := .int _ _) rfl) ?_
  refine dw_opd rfl rfl rfl (ao_as (v := .bool _) rfl) ?_
  refine dw_end ?_
  refine al_nilT ?_
  refine aw_seq ?_
  refine aw_seq ?_
  refine aw_region ?_
  refine al_opd rfl rfl rfl (ao_mv (v := .bool _) rfl) ?_
  refine al_opd rfl rfl rfl (ao_not rfl) ?_
  refine al_nilT ?_
  refine aw_cond rfl (fun h2_ => ?_) (fun h2_ => ?_)
  · try simp only [nrm] at h2_
    first | done | omega | (exfalso; revert h2_; simp; (first | done | omega))
  try simp only [nrm] at h2_
  refine aw_skipT ?_
  refine aw_seq ?_
  refine aw_region ?_
  refine al_opd rfl rfl rfl (ao_mv (v := .int _ _) rfl) ?_
  refine al_opd rfl rfl rfl (ao_as (v := .int _ _) rfl) ?_
  refine al_opd rfl rfl rfl (ao_as (v := .int _ _) rfl) ?_
  refine al_nilT ?_
  refine aw_ret ?_
  refine ends2 rfl (rv_tmp (v := .int _ _) rfl) (rv_tmp (v := .int _ _) rfl) ?_
  exact ⟨by first | rfl | (simp [*]; (first | done | fail)), by exact SMp⟩

-- impl.StepsBetween
theorem implSteps6b_c {r : Room} {a b : Spot} {H : AHeap} (hw : wfRoom r) (hwa : wfSpot a) (hwb : wfSpot b) (hcc : twoC r a b 0) (hv : mget (found r a) b = none) : ACd Try.prog 7 [.agg (roomC r).toArray, .agg #[.int .i8 a.x, .int .i8 a.y], .agg #[.int .i8 b.x, .int .i8 b.y]] H (.tuple #[.int .i64 0, .int .i64 6]) (H) := by
  obtain ⟨c1, hc1⟩ := exists_cellC r [a, b]
  obtain ⟨c3, hc3⟩ := exists_stateC r [a, b]
  have ⟨hr, hfa, hfb⟩ := two_ok hcc
  refine ac_gc0 (fun β => VR.plainT β (by first | rfl | simp [plainT, plainV, plain1])) (ac_body Try.func7 rfl Try.ntmps7 rfl ?_)
  refine aw_seq ?_
  refine aw_region ?_
  refine al_opd rfl rfl rfl (ao_boxa (by rfl)) ?_
  refine al_opd rfl rfl rfl (ao_boxa (by rfl)) ?_
  refine al_opd rfl rfl rfl (ao_boxa (by rfl)) ?_
  refine al_opd rfl rfl rfl (ao_as (v := .int _ _) rfl) ?_
  refine al_opd rfl rfl rfl (ao_as (v := .int _ _) rfl) ?_
  refine al_nilT ?_
  refine aw_seq ?_
  refine aw_seq ?_
  refine aw_draw (m := 13) mo (by kernel_rfl) rfl (fun _ _ _ h => h) ?_
  refine dw_opd rfl rfl rfl (ao_loada Try.isAgg28 Try.sizeOf28 rfl (by exact HLp) (by rfl) (by exact RFp)) ?_
  refine dw_opd rfl rfl rfl (ao_loada Try.isAgg31 Try.sizeOf31 rfl (by exact HLp) (by rfl) (by exact RFp)) ?_
  refine dw_opd rfl rfl rfl (ao_loada Try.isAgg31 Try.sizeOf31 rfl (by exact HLp) (by rfl) (by exact RFp)) ?_
  refine dw_opn rfl rfl rfl (ao_buildSlice (A := #[.int .i8 a.x, .int .i8 a.y, .int .i8 b.x, .int .i8 b.y]) Try.underlying35 Try.sizeOf31 Try.zeroValue31 (by rfl) (by rfl) (by decide) (by decide) (by rfl) (by first | rfl | kernel_rfl)) ?_
  refine dw_opd rfl rfl rfl (ao_calld (cellCode_c (r := r) (l := [a, b]) (c := c1) hw (two_len (r := r) hwa hwb) (Sl.full spot_len (by exact HLp) rfl rfl rfl) (by simp) hc1) Try.call28 rfl rfl) ?_
  refine dw_opd rfl rfl rfl (ao_loada Try.isAgg28 Try.sizeOf28 rfl (by exact HLp) (by rfl) (by exact RFp)) ?_
  refine dw_opd rfl rfl rfl (ao_loada Try.isAgg31 Try.sizeOf31 rfl (by exact HLp) (by rfl) (by exact RFp)) ?_
  refine dw_opd rfl rfl rfl (ao_loada Try.isAgg31 Try.sizeOf31 rfl (by exact HLp) (by rfl) (by exact RFp)) ?_
  refine dw_opn rfl rfl rfl (ao_buildSlice (A := #[.int .i8 a.x, .int .i8 a.y, .int .i8 b.x, .int .i8 b.y]) Try.underlying35 Try.sizeOf31 Try.zeroValue31 (by rfl) (by rfl) (by decide) (by decide) (by rfl) (by first | rfl | kernel_rfl)) ?_
  refine dw_opd rfl rfl rfl (ao_calld (stateCode_c (r := r) (l := [a, b]) (c := c3) hw (two_len (r := r) hwa hwb) (Sl.full spot_len (by exact HLp) rfl rfl rfl) (by simp) hc3) Try.call29 rfl rfl) ?_
  refine dw_opn rfl rfl rfl (ao_buildSlice (A := #[.int .i64 c1, .int .i64 c3]) Try.underlying87 Try.sizeOf2 Try.zeroValue2 (by rfl) (by rfl) (by decide) (by decide) (by rfl) (by first | rfl | kernel_rfl)) ?_
  refine dw_opd rfl rfl rfl (ao_calld (ACd.val (firstOf_c (l := [c1, c3]) (Sl.full i64_len (by exact HLp) rfl rfl rfl) (by simp)) (congrArg (Value.int .i64) (two_first hcc hc1 hc3))) Try.call27 rfl rfl) ?_
  refine dw_opd rfl rfl rfl (ao_as (v := .int _ _) rfl) ?_
  refine dw_end ?_
  refine al_nilT ?_
  refine aw_seq ?_
  refine aw_region ?_
  refine al_opd rfl rfl rfl (ao_mv (v := .int _ _) rfl) ?_
  refine al_opd rfl rfl rfl (ao_neq rfl rfl) ?_
  refine al_nilT ?_
  refine aw_cond rfl (fun h1_ => ?_) (fun h1_ => ?_)
  · try simp only [nrm] at h1_
    first | done | omega | (exfalso; revert h1_; simp; (first | done | omega))
  try simp only [nrm] at h1_
  refine aw_skipT ?_
  refine aw_seq ?_
  refine aw_draw (m := 10) mo (by kernel_rfl) rfl (fun _ _ _ h => h) ?_
  refine dw_opd rfl rfl rfl (ao_loada Try.isAgg28 Try.sizeOf28 rfl (by exact HLp) (by rfl) (by exact RFp)) ?_
  refine dw_opd rfl rfl rfl (ao_loada Try.isAgg31 Try.sizeOf31 rfl (by exact HLp) (by rfl) (by exact RFp)) ?_
  refine dw_opn rfl rfl rfl (ao_calld (implSteps_c (r := r) (s := a) hw hwa hfa) Try.call30 rfl rfl) ?_
  refine dw_opd rfl rfl rfl (ao_loada Try.isAgg31 Try.sizeOf31 rfl (by exact HLp) (by rfl) (by exact RFp)) ?_
  refine dw_opd rfl rfl rfl (ao_look2 (m := found r a) (k := b) (u := .int .i64 0) (ok := false) (ke := spV) (ve := ivV) Try.underlying60 keySpot_c (fun _ => rfl) Try.zeroValue2 (by rfl) (by rfl) (by rfl) (by exact HLp) (.inl ⟨hv, rfl, rfl⟩)) ?_
  refine dw_opd rfl rfl rfl (ao_mv (v := .tuple _) rfl) ?_
  refine dw_opd rfl rfl rfl (ao_extract (v := .int _ _) rfl rfl) ?_
  refine dw_opd rfl rfl rfl (ao_extract (v := .bool _) rfl rfl) ?_
  refine dw_opd rfl rfl rfl (ao_as (v := .int _ _) rfl) ?_
  refine dw_opd rfl rfl rfl (ao_as (v := .bool _) rfl) ?_
  refine dw_end ?_
  refine al_nilT ?_
  refine aw_seq ?_
  refine aw_seq ?_
  refine aw_region ?_
  refine al_opd rfl rfl rfl (ao_mv (v := .bool _) rfl) ?_
  refine al_opd rfl rfl rfl (ao_not rfl) ?_
  refine al_nilT ?_
  refine aw_cond rfl (fun h2_ => ?_) (fun h2_ => ?_)
  rotate_left
  · try simp only [nrm] at h2_
    first | done | omega | (exfalso; revert h2_; simp; (first | done | omega))
  try simp only [nrm] at h2_
  refine aw_seq ?_
  refine aw_region ?_
  refine al_opd rfl rfl rfl (ao_as (v := .int _ _) rfl) ?_
  refine al_opd rfl rfl rfl (ao_as (v := .int _ _) rfl) ?_
  refine al_nilT ?_
  refine aw_ret ?_
  refine thenA_r ?_
  refine ends2 rfl (rv_tmp (v := .int _ _) rfl) (rv_tmp (v := .int _ _) rfl) ?_
  exact ⟨by first | rfl | (simp [*]; (first | done | fail)), by exact SMp⟩

end Go.Proofs.Ytmafkbminigbcaa
