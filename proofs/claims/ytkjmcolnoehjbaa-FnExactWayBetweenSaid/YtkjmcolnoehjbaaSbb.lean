/- Contracts of the program's functions over abstract heaps. -/
import Derived.Test.YtkjmcolnoehjbaaBfs4
import Derived.Test.YtkjmcolnoehjbaaFn
import Derived.Test.YtkjmcolnoehjbaaSt
namespace Go.Proofs.Ytkjmcolnoehjbaa
open Go Go.AW Go.Proofs
set_option linter.unusedVariables false
set_option linter.unusedSimpArgs false
set_option maxRecDepth 100000
set_option maxHeartbeats 2000000

-- impl.StepsBetween
theorem implSteps1b_c {r : Room} {a b : Spot} {v : Int} {H : AHeap} (hw : wfRoom r) (hwa : wfSpot a) (hwb : wfSpot b) (hcc : twoC r a b 0) (hv : mget (found r a) b = some v) : ACd Try.prog 13 [.agg (roomC r).toArray, .agg #[.int .i8 a.x, .int .i8 a.y], .agg #[.int .i8 b.x, .int .i8 b.y]] H (.tuple #[.int .i64 v, .int .i64 0]) (H) := by
  obtain ⟨c1, hc1⟩ := exists_cellC r [a, b]
  obtain ⟨c3, hc3⟩ := exists_stateC r [a, b]
  have ⟨hr, hfa, hfb⟩ := two_ok hcc
  refine ac_gc0 (fun β => VR.plainT β (by first | rfl | simp [plainT, plainV, plain1])) (ac_body Try.func13 rfl Try.ntmps13 rfl ?_)
  refine aw_seq ?_
  refine aw_region ?_
  refine al_opd rfl rfl rfl (ao_boxa (by rfl)) ?_
  refine al_opd rfl rfl rfl (ao_boxa (by rfl)) ?_
  refine al_opd rfl rfl rfl (ao_boxa (by rfl)) ?_
  refine al_opd rfl rfl rfl (ao_as (v := .int _ _) rfl) ?_
  refine al_opd rfl rfl rfl (ao_as (v := .int _ _) rfl) ?_
  refine al_nilT ?_
  refine aw_seq ?_
  refine aw_seq ?_
  refine aw_draw (m := 13) mo (by kernel_rfl) rfl (fun _ _ _ h => h) ?_
  refine dw_opd rfl rfl rfl (ao_loada Try.isAgg31 Try.sizeOf31 rfl (by exact HLp) (by rfl) (by exact RFp)) ?_
  refine dw_opd rfl rfl rfl (ao_loada Try.isAgg33 Try.sizeOf33 rfl (by exact HLp) (by rfl) (by exact RFp)) ?_
  refine dw_opd rfl rfl rfl (ao_loada Try.isAgg33 Try.sizeOf33 rfl (by exact HLp) (by rfl) (by exact RFp)) ?_
  refine dw_opn rfl rfl rfl (ao_buildSlice (A := #[.int .i8 a.x, .int .i8 a.y, .int .i8 b.x, .int .i8 b.y]) Try.underlying40 Try.sizeOf33 Try.zeroValue33 (by rfl) (by rfl) (by decide) (by decide) (by rfl) (by first | rfl | kernel_rfl)) ?_
  refine dw_opd rfl rfl rfl (ao_calld (cellCode_c (r := r) (l := [a, b]) (c := c1) hw (two_len (r := r) hwa hwb) (Sl.full spot_len (by exact HLp) rfl rfl rfl) (by simp) hc1) Try.call37 rfl rfl) ?_
  refine dw_opd rfl rfl rfl (ao_loada Try.isAgg31 Try.sizeOf31 rfl (by exact HLp) (by rfl) (by exact RFp)) ?_
  refine dw_opd rfl rfl rfl (ao_loada Try.isAgg33 Try.sizeOf33 rfl (by exact HLp) (by rfl) (by exact RFp)) ?_
  refine dw_opd rfl rfl rfl (ao_loada Try.isAgg33 Try.sizeOf33 rfl (by exact HLp) (by rfl) (by exact RFp)) ?_
  refine dw_opn rfl rfl rfl (ao_buildSlice (A := #[.int .i8 a.x, .int .i8 a.y, .int .i8 b.x, .int .i8 b.y]) Try.underlying40 Try.sizeOf33 Try.zeroValue33 (by rfl) (by rfl) (by decide) (by decide) (by rfl) (by first | rfl | kernel_rfl)) ?_
  refine dw_opd rfl rfl rfl (ao_calld (stateCode_c (r := r) (l := [a, b]) (c := c3) hw (two_len (r := r) hwa hwb) (Sl.full spot_len (by exact HLp) rfl rfl rfl) (by simp) hc3) Try.call38 rfl rfl) ?_
  refine dw_opn rfl rfl rfl (ao_buildSlice (A := #[.int .i64 c1, .int .i64 c3]) Try.underlying88 Try.sizeOf2 Try.zeroValue2 (by rfl) (by rfl) (by decide) (by decide) (by rfl) (by first | rfl | kernel_rfl)) ?_
  refine dw_opd rfl rfl rfl (ao_calld (ACd.val (firstOf_c (l := [c1, c3]) (Sl.full i64_len (by exact HLp) rfl rfl rfl) (by simp)) (congrArg (Value.int .i64) (two_first hcc hc1 hc3))) Try.call36 rfl rfl) ?_
  refine dw_opd rfl rfl rfl (ao_as (v := .int _ _) rfl) ?_
  refine dw_end ?_
  refine al_nilT ?_
  refine aw_seq ?_
  refine aw_region ?_
  refine al_opd rfl rfl rfl (ao_mv (v := .int _ _) rfl) ?_
  refine al_opd rfl rfl rfl (ao_neq rfl rfl) ?_
  refine al_nilT ?_
  refine aw_cond rfl (fun h1_ => ?_) (fun h1_ => ?_)
  · try simp only [decide_eq_true_eq, decide_eq_false_iff_not, Bool.not_eq_true', Bool.not_eq_false', Bool.and_eq_true, Bool.or_eq_true, Bool.and_eq_false_iff, Bool.or_eq_false_iff, beq_iff_eq, bne_iff_ne, beq_eq_false_iff_ne, bne_eq_false_iff_eq, ne_eq, Decidable.not_not, Bool.decide_eq_true] at h1_
    first | done | omega | (exfalso; revert h1_; simp; (first | done | omega))
  · try simp only [decide_eq_true_eq, decide_eq_false_iff_not, Bool.not_eq_true', Bool.not_eq_false', Bool.and_eq_true, Bool.or_eq_true, Bool.and_eq_false_iff, Bool.or_eq_false_iff, beq_iff_eq, bne_iff_ne, beq_eq_false_iff_ne, bne_eq_false_iff_eq, ne_eq, Decidable.not_not, Bool.decide_eq_true] at h1_
    refine aw_skipT ?_
    refine aw_seq ?_
    refine aw_draw (m := 10) mo (by kernel_rfl) rfl (fun _ _ _ h => h) ?_
    refine dw_opd rfl rfl rfl (ao_loada Try.isAgg31 Try.sizeOf31 rfl (by exact HLp) (by rfl) (by exact RFp)) ?_
    refine dw_opd rfl rfl rfl (ao_loada Try.isAgg33 Try.sizeOf33 rfl (by exact HLp) (by rfl) (by exact RFp)) ?_
    refine dw_opn rfl rfl rfl (ao_calld (implSteps_c (r := r) (s := a) hw hwa hfa) Try.call39 rfl rfl) ?_
    refine dw_opd rfl rfl rfl (ao_loada Try.isAgg33 Try.sizeOf33 rfl (by exact HLp) (by rfl) (by exact RFp)) ?_
    refine dw_opd rfl rfl rfl (ao_look2 (m := found r a) (k := b) (u := .int .i64 v) (ok := true) (ke := spV) (ve := ivV) Try.underlying64 keySpot_c (fun _ => rfl) Try.zeroValue2 (by rfl) (by rfl) (by rfl) (by exact HLp) (.inr ⟨v, hv, rfl, rfl⟩)) ?_
    refine dw_opd rfl rfl rfl (ao_mv (v := .tuple _) rfl) ?_
    refine dw_opd rfl rfl rfl (ao_extract (v := .int _ _) rfl rfl) ?_
    refine dw_opd rfl rfl rfl (ao_extract (v := .bool _) rfl rfl) ?_
    refine dw_opd rfl rfl rfl (ao_as (v := .int _ _) rfl) ?_
    refine dw_opd rfl rfl rfl (ao_as (v := .bool _) rfl) ?_
    refine dw_end ?_
    refine al_nilT ?_
    refine aw_seq ?_
    refine aw_seq ?_
    refine aw_region ?_
    refine al_opd rfl rfl rfl (ao_mv (v := .bool _) rfl) ?_
    refine al_opd rfl rfl rfl (ao_not rfl) ?_
    refine al_nilT ?_
    refine aw_cond rfl (fun h2_ => ?_) (fun h2_ => ?_)
    · try simp only [decide_eq_true_eq, decide_eq_false_iff_not, Bool.not_eq_true', Bool.not_eq_false', Bool.and_eq_true, Bool.or_eq_true, Bool.and_eq_false_iff, Bool.or_eq_false_iff, beq_iff_eq, bne_iff_ne, beq_eq_false_iff_ne, bne_eq_false_iff_eq, ne_eq, Decidable.not_not, Bool.decide_eq_true] at h2_
      first | done | omega | (exfalso; revert h2_; simp; (first | done | omega))
    · try simp only [decide_eq_true_eq, decide_eq_false_iff_not, Bool.not_eq_true', Bool.not_eq_false', Bool.and_eq_true, Bool.or_eq_true, Bool.and_eq_false_iff, Bool.or_eq_false_iff, beq_iff_eq, bne_iff_ne, beq_eq_false_iff_ne, bne_eq_false_iff_eq, ne_eq, Decidable.not_not, Bool.decide_eq_true] at h2_
      refine aw_skipT ?_
      refine aw_seq ?_
      refine aw_region ?_
      refine al_opd rfl rfl rfl (ao_mv (v := .int _ _) rfl) ?_
      refine al_opd rfl rfl rfl (ao_as (v := .int _ _) rfl) ?_
      refine al_opd rfl rfl rfl (ao_as (v := .int _ _) rfl) ?_
      refine al_nilT ?_
      refine aw_ret ?_
      refine ends2 rfl (rv_tmp (v := .int _ _) rfl) (rv_tmp (v := .int _ _) rfl) ?_
      exact ⟨by first | rfl | (simp [*]; (first | done | fail)), by exact SMp⟩

-- impl.StepsBetween
theorem implSteps6b_c {r : Room} {a b : Spot} {H : AHeap} (hw : wfRoom r) (hwa : wfSpot a) (hwb : wfSpot b) (hcc : twoC r a b 0) (hv : mget (found r a) b = none) : ACd Try.prog 13 [.agg (roomC r).toArray, .agg #[.int .i8 a.x, .int .i8 a.y], .agg #[.int .i8 b.x, .int .i8 b.y]] H (.tuple #[.int .i64 0, .int .i64 6]) (H) := by
  obtain ⟨c1, hc1⟩ := exists_cellC r [a, b]
  obtain ⟨c3, hc3⟩ := exists_stateC r [a, b]
  have ⟨hr, hfa, hfb⟩ := two_ok hcc
  refine ac_gc0 (fun β => VR.plainT β (by first | rfl | simp [plainT, plainV, plain1])) (ac_body Try.func13 rfl Try.ntmps13 rfl ?_)
  refine aw_seq ?_
  refine aw_region ?_
  refine al_opd rfl rfl rfl (ao_boxa (by rfl)) ?_
  refine al_opd rfl rfl rfl (ao_boxa (by rfl)) ?_
  refine al_opd rfl rfl rfl (ao_boxa (by rfl)) ?_
  refine al_opd rfl rfl rfl (ao_as (v := .int _ _) rfl) ?_
  refine al_opd rfl rfl rfl (ao_as (v := .int _ _) rfl) ?_
  refine al_nilT ?_
  refine aw_seq ?_
  refine aw_seq ?_
  refine aw_draw (m := 13) mo (by kernel_rfl) rfl (fun _ _ _ h => h) ?_
  refine dw_opd rfl rfl rfl (ao_loada Try.isAgg31 Try.sizeOf31 rfl (by exact HLp) (by rfl) (by exact RFp)) ?_
  refine dw_opd rfl rfl rfl (ao_loada Try.isAgg33 Try.sizeOf33 rfl (by exact HLp) (by rfl) (by exact RFp)) ?_
  refine dw_opd rfl rfl rfl (ao_loada Try.isAgg33 Try.sizeOf33 rfl (by exact HLp) (by rfl) (by exact RFp)) ?_
  refine dw_opn rfl rfl rfl (ao_buildSlice (A := #[.int .i8 a.x, .int .i8 a.y, .int .i8 b.x, .int .i8 b.y]) Try.underlying40 Try.sizeOf33 Try.zeroValue33 (by rfl) (by rfl) (by decide) (by decide) (by rfl) (by first | rfl | kernel_rfl)) ?_
  refine dw_opd rfl rfl rfl (ao_calld (cellCode_c (r := r) (l := [a, b]) (c := c1) hw (two_len (r := r) hwa hwb) (Sl.full spot_len (by exact HLp) rfl rfl rfl) (by simp) hc1) Try.call37 rfl rfl) ?_
  refine dw_opd rfl rfl rfl (ao_loada Try.isAgg31 Try.sizeOf31 rfl (by exact HLp) (by rfl) (by exact RFp)) ?_
  refine dw_opd rfl rfl rfl (ao_loada Try.isAgg33 Try.sizeOf33 rfl (by exact HLp) (by rfl) (by exact RFp)) ?_
  refine dw_opd rfl rfl rfl (ao_loada Try.isAgg33 Try.sizeOf33 rfl (by exact HLp) (by rfl) (by exact RFp)) ?_
  refine dw_opn rfl rfl rfl (ao_buildSlice (A := #[.int .i8 a.x, .int .i8 a.y, .int .i8 b.x, .int .i8 b.y]) Try.underlying40 Try.sizeOf33 Try.zeroValue33 (by rfl) (by rfl) (by decide) (by decide) (by rfl) (by first | rfl | kernel_rfl)) ?_
  refine dw_opd rfl rfl rfl (ao_calld (stateCode_c (r := r) (l := [a, b]) (c := c3) hw (two_len (r := r) hwa hwb) (Sl.full spot_len (by exact HLp) rfl rfl rfl) (by simp) hc3) Try.call38 rfl rfl) ?_
  refine dw_opn rfl rfl rfl (ao_buildSlice (A := #[.int .i64 c1, .int .i64 c3]) Try.underlying88 Try.sizeOf2 Try.zeroValue2 (by rfl) (by rfl) (by decide) (by decide) (by rfl) (by first | rfl | kernel_rfl)) ?_
  refine dw_opd rfl rfl rfl (ao_calld (ACd.val (firstOf_c (l := [c1, c3]) (Sl.full i64_len (by exact HLp) rfl rfl rfl) (by simp)) (congrArg (Value.int .i64) (two_first hcc hc1 hc3))) Try.call36 rfl rfl) ?_
  refine dw_opd rfl rfl rfl (ao_as (v := .int _ _) rfl) ?_
  refine dw_end ?_
  refine al_nilT ?_
  refine aw_seq ?_
  refine aw_region ?_
  refine al_opd rfl rfl rfl (ao_mv (v := .int _ _) rfl) ?_
  refine al_opd rfl rfl rfl (ao_neq rfl rfl) ?_
  refine al_nilT ?_
  refine aw_cond rfl (fun h1_ => ?_) (fun h1_ => ?_)
  · try simp only [decide_eq_true_eq, decide_eq_false_iff_not, Bool.not_eq_true', Bool.not_eq_false', Bool.and_eq_true, Bool.or_eq_true, Bool.and_eq_false_iff, Bool.or_eq_false_iff, beq_iff_eq, bne_iff_ne, beq_eq_false_iff_ne, bne_eq_false_iff_eq, ne_eq, Decidable.not_not, Bool.decide_eq_true] at h1_
    first | done | omega | (exfalso; revert h1_; simp; (first | done | omega))
  · try simp only [decide_eq_true_eq, decide_eq_false_iff_not, Bool.not_eq_true', Bool.not_eq_false', Bool.and_eq_true, Bool.or_eq_true, Bool.and_eq_false_iff, Bool.or_eq_false_iff, beq_iff_eq, bne_iff_ne, beq_eq_false_iff_ne, bne_eq_false_iff_eq, ne_eq, Decidable.not_not, Bool.decide_eq_true] at h1_
    refine aw_skipT ?_
    refine aw_seq ?_
    refine aw_draw (m := 10) mo (by kernel_rfl) rfl (fun _ _ _ h => h) ?_
    refine dw_opd rfl rfl rfl (ao_loada Try.isAgg31 Try.sizeOf31 rfl (by exact HLp) (by rfl) (by exact RFp)) ?_
    refine dw_opd rfl rfl rfl (ao_loada Try.isAgg33 Try.sizeOf33 rfl (by exact HLp) (by rfl) (by exact RFp)) ?_
    refine dw_opn rfl rfl rfl (ao_calld (implSteps_c (r := r) (s := a) hw hwa hfa) Try.call39 rfl rfl) ?_
    refine dw_opd rfl rfl rfl (ao_loada Try.isAgg33 Try.sizeOf33 rfl (by exact HLp) (by rfl) (by exact RFp)) ?_
    refine dw_opd rfl rfl rfl (ao_look2 (m := found r a) (k := b) (u := .int .i64 0) (ok := false) (ke := spV) (ve := ivV) Try.underlying64 keySpot_c (fun _ => rfl) Try.zeroValue2 (by rfl) (by rfl) (by rfl) (by exact HLp) (.inl ⟨hv, rfl, rfl⟩)) ?_
    refine dw_opd rfl rfl rfl (ao_mv (v := .tuple _) rfl) ?_
    refine dw_opd rfl rfl rfl (ao_extract (v := .int _ _) rfl rfl) ?_
    refine dw_opd rfl rfl rfl (ao_extract (v := .bool _) rfl rfl) ?_
    refine dw_opd rfl rfl rfl (ao_as (v := .int _ _) rfl) ?_
    refine dw_opd rfl rfl rfl (ao_as (v := .bool _) rfl) ?_
    refine dw_end ?_
    refine al_nilT ?_
    refine aw_seq ?_
    refine aw_seq ?_
    refine aw_region ?_
    refine al_opd rfl rfl rfl (ao_mv (v := .bool _) rfl) ?_
    refine al_opd rfl rfl rfl (ao_not rfl) ?_
    refine al_nilT ?_
    refine aw_cond rfl (fun h2_ => ?_) (fun h2_ => ?_)
    · try simp only [decide_eq_true_eq, decide_eq_false_iff_not, Bool.not_eq_true', Bool.not_eq_false', Bool.and_eq_true, Bool.or_eq_true, Bool.and_eq_false_iff, Bool.or_eq_false_iff, beq_iff_eq, bne_iff_ne, beq_eq_false_iff_ne, bne_eq_false_iff_eq, ne_eq, Decidable.not_not, Bool.decide_eq_true] at h2_
      refine aw_seq ?_
      refine aw_region ?_
      refine al_opd rfl rfl rfl (ao_as (v := .int _ _) rfl) ?_
      refine al_opd rfl rfl rfl (ao_as (v := .int _ _) rfl) ?_
      refine al_nilT ?_
      refine aw_ret ?_
      refine thenA_r ?_
      refine ends2 rfl (rv_tmp (v := .int _ _) rfl) (rv_tmp (v := .int _ _) rfl) ?_
      exact ⟨by first | rfl | (simp [*]; (first | done | fail)), by exact SMp⟩
    · try simp only [decide_eq_true_eq, decide_eq_false_iff_not, Bool.not_eq_true', Bool.not_eq_false', Bool.and_eq_true, Bool.or_eq_true, Bool.and_eq_false_iff, Bool.or_eq_false_iff, beq_iff_eq, bne_iff_ne, beq_eq_false_iff_ne, bne_eq_false_iff_eq, ne_eq, Decidable.not_not, Bool.decide_eq_true] at h2_
      first | done | omega | (exfalso; revert h2_; simp; (first | done | omega))

-- impl.StepsBetween
theorem implSteps0b_c {r : Room} {a b : Spot} {c : Int} {H : AHeap} (hw : wfRoom r) (hwa : wfSpot a) (hwb : wfSpot b) (hcc : twoC r a b c) (h0 : c ≠ 0) : ACd Try.prog 13 [.agg (roomC r).toArray, .agg #[.int .i8 a.x, .int .i8 a.y], .agg #[.int .i8 b.x, .int .i8 b.y]] H (.tuple #[.int .i64 0, .int .i64 c]) (H) := by
  obtain ⟨c1, hc1⟩ := exists_cellC r [a, b]
  obtain ⟨c3, hc3⟩ := exists_stateC r [a, b]
  refine ac_gc0 (fun β => VR.plainT β (by first | rfl | simp [plainT, plainV, plain1])) (ac_body Try.func13 rfl Try.ntmps13 rfl ?_)
  refine aw_seq ?_
  refine aw_region ?_
  refine al_opd rfl rfl rfl (ao_boxa (by rfl)) ?_
  refine al_opd rfl rfl rfl (ao_boxa (by rfl)) ?_
  refine al_opd rfl rfl rfl (ao_boxa (by rfl)) ?_
  refine al_opd rfl rfl rfl (ao_as (v := .int _ _) rfl) ?_
  refine al_opd rfl rfl rfl (ao_as (v := .int _ _) rfl) ?_
  refine al_nilT ?_
  refine aw_seq ?_
  refine aw_seq ?_
  refine aw_draw (m := 13) mo (by kernel_rfl) rfl (fun _ _ _ h => h) ?_
  refine dw_opd rfl rfl rfl (ao_loada Try.isAgg31 Try.sizeOf31 rfl (by exact HLp) (by rfl) (by exact RFp)) ?_
  refine dw_opd rfl rfl rfl (ao_loada Try.isAgg33 Try.sizeOf33 rfl (by exact HLp) (by rfl) (by exact RFp)) ?_
  refine dw_opd rfl rfl rfl (ao_loada Try.isAgg33 Try.sizeOf33 rfl (by exact HLp) (by rfl) (by exact RFp)) ?_
  refine dw_opn rfl rfl rfl (ao_buildSlice (A := #[.int .i8 a.x, .int .i8 a.y, .int .i8 b.x, .int .i8 b.y]) Try.underlying40 Try.sizeOf33 Try.zeroValue33 (by rfl) (by rfl) (by decide) (by decide) (by rfl) (by first | rfl | kernel_rfl)) ?_
  refine dw_opd rfl rfl rfl (ao_calld (cellCode_c (r := r) (l := [a, b]) (c := c1) hw (two_len (r := r) hwa hwb) (Sl.full spot_len (by exact HLp) rfl rfl rfl) (by simp) hc1) Try.call37 rfl rfl) ?_
  refine dw_opd rfl rfl rfl (ao_loada Try.isAgg31 Try.sizeOf31 rfl (by exact HLp) (by rfl) (by exact RFp)) ?_
  refine dw_opd rfl rfl rfl (ao_loada Try.isAgg33 Try.sizeOf33 rfl (by exact HLp) (by rfl) (by exact RFp)) ?_
  refine dw_opd rfl rfl rfl (ao_loada Try.isAgg33 Try.sizeOf33 rfl (by exact HLp) (by rfl) (by exact RFp)) ?_
  refine dw_opn rfl rfl rfl (ao_buildSlice (A := #[.int .i8 a.x, .int .i8 a.y, .int .i8 b.x, .int .i8 b.y]) Try.underlying40 Try.sizeOf33 Try.zeroValue33 (by rfl) (by rfl) (by decide) (by decide) (by rfl) (by first | rfl | kernel_rfl)) ?_
  refine dw_opd rfl rfl rfl (ao_calld (stateCode_c (r := r) (l := [a, b]) (c := c3) hw (two_len (r := r) hwa hwb) (Sl.full spot_len (by exact HLp) rfl rfl rfl) (by simp) hc3) Try.call38 rfl rfl) ?_
  refine dw_opn rfl rfl rfl (ao_buildSlice (A := #[.int .i64 c1, .int .i64 c3]) Try.underlying88 Try.sizeOf2 Try.zeroValue2 (by rfl) (by rfl) (by decide) (by decide) (by rfl) (by first | rfl | kernel_rfl)) ?_
  refine dw_opd rfl rfl rfl (ao_calld (ACd.val (firstOf_c (l := [c1, c3]) (Sl.full i64_len (by exact HLp) rfl rfl rfl) (by simp)) (congrArg (Value.int .i64) (two_first hcc hc1 hc3))) Try.call36 rfl rfl) ?_
  refine dw_opd rfl rfl rfl (ao_as (v := .int _ _) rfl) ?_
  refine dw_end ?_
  refine al_nilT ?_
  refine aw_seq ?_
  refine aw_region ?_
  refine al_opd rfl rfl rfl (ao_mv (v := .int _ _) rfl) ?_
  refine al_opd rfl rfl rfl (ao_neq rfl rfl) ?_
  refine al_nilT ?_
  refine aw_cond rfl (fun h1_ => ?_) (fun h1_ => ?_)
  · try simp only [decide_eq_true_eq, decide_eq_false_iff_not, Bool.not_eq_true', Bool.not_eq_false', Bool.and_eq_true, Bool.or_eq_true, Bool.and_eq_false_iff, Bool.or_eq_false_iff, beq_iff_eq, bne_iff_ne, beq_eq_false_iff_ne, bne_eq_false_iff_eq, ne_eq, Decidable.not_not, Bool.decide_eq_true] at h1_
    refine aw_seq ?_
    refine aw_region ?_
    refine al_opd rfl rfl rfl (ao_mv (v := .int _ _) rfl) ?_
    refine al_opd rfl rfl rfl (ao_as (v := .int _ _) rfl) ?_
    refine al_opd rfl rfl rfl (ao_as (v := .int _ _) rfl) ?_
    refine al_nilT ?_
    refine aw_ret ?_
    refine thenA_r ?_
    refine ends2 rfl (rv_tmp (v := .int _ _) rfl) (rv_tmp (v := .int _ _) rfl) ?_
    exact ⟨by first | rfl | (simp [*]; (first | done | fail)), by exact SMp⟩
  · try simp only [decide_eq_true_eq, decide_eq_false_iff_not, Bool.not_eq_true', Bool.not_eq_false', Bool.and_eq_true, Bool.or_eq_true, Bool.and_eq_false_iff, Bool.or_eq_false_iff, beq_iff_eq, bne_iff_ne, beq_eq_false_iff_ne, bne_eq_false_iff_eq, ne_eq, Decidable.not_not, Bool.decide_eq_true] at h1_
    first | done | omega | (exfalso; revert h1_; simp; (first | done | omega))

end Go.Proofs.Ytkjmcolnoehjbaa
