/- Contracts of the program's functions over abstract heaps. -/
import Derived.Test.YtkjmcolnoehjbaaPts
import Derived.Test.YtkjmcolnoehjbaaVr
import Derived.Test.YtkjmcolnoehjbaaPa
import Derived.Test.YtkjmcolnoehjbaaPa2
namespace Go.Proofs.Ytkjmcolnoehjbaa
open Go Go.AW Go.Proofs
set_option linter.unusedVariables false
set_option linter.unusedSimpArgs false
set_option maxRecDepth 100000
set_option maxHeartbeats 2000000

-- spec.PartsOf
theorem specParts1_c {r : Room} {H : AHeap} (hw : wfRoom r) (hr : okRoom r) : ACd Try.prog 26 [.agg (roomC r).toArray] H (.tuple #[partsV H (partsL r), .int .i64 0]) (H.addP (partsL r)) := by
  refine ac_gcpT (ac_body Try.func26 rfl Try.ntmps26 rfl ?_)
  refine aw_seq ?_
  refine aw_region ?_
  refine al_opd rfl rfl rfl (ao_boxa (by rfl)) ?_
  refine al_opd rfl rfl rfl (ao_as (v := .slice _ _ _) rfl) ?_
  refine al_opd rfl rfl rfl (ao_as (v := .int _ _) rfl) ?_
  refine al_nilT ?_
  refine aw_seq ?_
  refine aw_seq ?_
  refine aw_region ?_
  refine al_opd rfl rfl rfl (ao_calld (l01Ok_c (r := r) (b := true) (by exact HLq) hw (yes hr)) Try.call49 rfl rfl) ?_
  refine al_opd rfl rfl rfl (ao_not rfl) ?_
  refine al_nilT ?_
  refine aw_cond rfl (fun h1_ => ?_) (fun h1_ => ?_)
  · try simp only [decide_eq_true_eq, decide_eq_false_iff_not, Bool.not_eq_true', Bool.not_eq_false', Bool.and_eq_true, Bool.or_eq_true, Bool.and_eq_false_iff, Bool.or_eq_false_iff, beq_iff_eq, bne_iff_ne, beq_eq_false_iff_ne, bne_eq_false_iff_eq, ne_eq, Decidable.not_not, Bool.decide_eq_true] at h1_
    first | done | omega | (exfalso; revert h1_; simp; (first | done | omega))
  · try simp only [decide_eq_true_eq, decide_eq_false_iff_not, Bool.not_eq_true', Bool.not_eq_false', Bool.and_eq_true, Bool.or_eq_true, Bool.and_eq_false_iff, Bool.or_eq_false_iff, beq_iff_eq, bne_iff_ne, beq_eq_false_iff_ne, bne_eq_false_iff_eq, ne_eq, Decidable.not_not, Bool.decide_eq_true] at h1_
    refine aw_skipT ?_
    refine aw_seq ?_
    refine aw_region ?_
    refine al_opd rfl rfl rfl (ao_calld (l01Parts_c (r := r) (by exact HLq) hr hw) Try.call50 rfl rfl) ?_
    refine al_opd rfl rfl rfl (ao_as (v := .slice _ _ _) rfl) ?_
    refine al_opd rfl rfl rfl (ao_as (v := .int _ _) rfl) ?_
    refine al_nilT ?_
    refine aw_ret ?_
    refine ends2 rfl (rv_tmp (v := .slice _ _ _) rfl) (rv_tmp (v := .int _ _) rfl) ?_
    exact ⟨by exact SMq, _, _, rfl, (addP_ss (H.push (.cells (roomC r) 1)) (partsL r)).weak (by exact LEq)⟩

-- impl.PartsOf
theorem implParts1_c {r : Room} {H : AHeap} (hw : wfRoom r) (hr : okRoom r) : ACd Try.prog 27 [.agg (roomC r).toArray] H (.tuple #[partsV H (partsL r), .int .i64 0]) (H.addP (partsL r)) := by
  refine ac_gcpT (ac_body Try.func27 rfl Try.ntmps27 rfl ?_)
  refine aw_seq ?_
  refine aw_region ?_
  refine al_opd rfl rfl rfl (ao_boxa (by rfl)) ?_
  refine al_opd rfl rfl rfl (ao_as (v := .slice _ _ _) rfl) ?_
  refine al_opd rfl rfl rfl (ao_as (v := .int _ _) rfl) ?_
  refine al_nilT ?_
  refine aw_seq ?_
  refine aw_seq ?_
  refine aw_region ?_
  refine al_opd rfl rfl rfl (ao_loada Try.isAgg31 Try.sizeOf31 rfl (by exact HLq) (by rfl) (by exact RFp)) ?_
  refine al_opd rfl rfl rfl (ao_calld (implValid_c (r := r) (b := true) hw (yes hr)) Try.call52 rfl rfl) ?_
  refine al_opd rfl rfl rfl (ao_not rfl) ?_
  refine al_nilT ?_
  refine aw_cond rfl (fun h1_ => ?_) (fun h1_ => ?_)
  · try simp only [decide_eq_true_eq, decide_eq_false_iff_not, Bool.not_eq_true', Bool.not_eq_false', Bool.and_eq_true, Bool.or_eq_true, Bool.and_eq_false_iff, Bool.or_eq_false_iff, beq_iff_eq, bne_iff_ne, beq_eq_false_iff_ne, bne_eq_false_iff_eq, ne_eq, Decidable.not_not, Bool.decide_eq_true] at h1_
    first | done | omega | (exfalso; revert h1_; simp; (first | done | omega))
  · try simp only [decide_eq_true_eq, decide_eq_false_iff_not, Bool.not_eq_true', Bool.not_eq_false', Bool.and_eq_true, Bool.or_eq_true, Bool.and_eq_false_iff, Bool.or_eq_false_iff, beq_iff_eq, bne_iff_ne, beq_eq_false_iff_ne, bne_eq_false_iff_eq, ne_eq, Decidable.not_not, Bool.decide_eq_true] at h1_
    refine aw_skipT ?_
    refine aw_seq ?_
    refine aw_region ?_
    refine al_opd rfl rfl rfl (ao_loada Try.isAgg31 Try.sizeOf31 rfl (by exact HLq) (by rfl) (by exact RFp)) ?_
    refine al_opd rfl rfl rfl (ao_calld (implParts_c (r := r) hr hw) Try.call53 rfl rfl) ?_
    refine al_opd rfl rfl rfl (ao_as (v := .slice _ _ _) rfl) ?_
    refine al_opd rfl rfl rfl (ao_as (v := .int _ _) rfl) ?_
    refine al_nilT ?_
    refine aw_ret ?_
    refine ends2 rfl (rv_tmp (v := .slice _ _ _) rfl) (rv_tmp (v := .int _ _) rfl) ?_
    exact ⟨by exact SMq, _, _, rfl, (addP_ss (H.push (.cells (roomC r) 1)) (partsL r)).weak (by exact LEq)⟩

-- spec.PartsOf
theorem specParts0_c {r : Room} {H : AHeap} (hw : wfRoom r) (hr : ¬ okRoom r) : ACd Try.prog 26 [.agg (roomC r).toArray] H (.tuple #[.slice (some ⟨H.next, 0, none⟩) 0 0, .int .i64 1]) (H.push (.cells [] 1)) := by
  refine ac_gcs (cs := []) (es := 1) (fun β => VRL.nil β) (ac_body Try.func26 rfl Try.ntmps26 rfl ?_)
  refine aw_seq ?_
  refine aw_region ?_
  refine al_opd rfl rfl rfl (ao_boxa (by rfl)) ?_
  refine al_opd rfl rfl rfl (ao_as (v := .slice _ _ _) rfl) ?_
  refine al_opd rfl rfl rfl (ao_as (v := .int _ _) rfl) ?_
  refine al_nilT ?_
  refine aw_seq ?_
  refine aw_seq ?_
  refine aw_region ?_
  refine al_opd rfl rfl rfl (ao_calld (l01Ok_c (r := r) (b := false) (by exact HLp) hw (no hr)) Try.call49 rfl rfl) ?_
  refine al_opd rfl rfl rfl (ao_not rfl) ?_
  refine al_nilT ?_
  refine aw_cond rfl (fun h1_ => ?_) (fun h1_ => ?_)
  · try simp only [decide_eq_true_eq, decide_eq_false_iff_not, Bool.not_eq_true', Bool.not_eq_false', Bool.and_eq_true, Bool.or_eq_true, Bool.and_eq_false_iff, Bool.or_eq_false_iff, beq_iff_eq, bne_iff_ne, beq_eq_false_iff_ne, bne_eq_false_iff_eq, ne_eq, Decidable.not_not, Bool.decide_eq_true] at h1_
    refine aw_seq ?_
    refine aw_region ?_
    refine al_opd rfl rfl rfl (ao_lit0 Try.underlying49 Try.sizeOf40 Try.zeroValue40 (by rfl) (by rfl) rfl) ?_
    refine al_opd rfl rfl rfl (ao_as (v := .slice _ _ _) rfl) ?_
    refine al_opd rfl rfl rfl (ao_as (v := .int _ _) rfl) ?_
    refine al_nilT ?_
    refine aw_ret ?_
    refine thenA_r ?_
    refine ends2 rfl (rv_tmp (v := .slice _ _ _) rfl) (rv_tmp (v := .int _ _) rfl) ?_
    exact ⟨by exact SMp, _, by exact LEp, by exact HLp, fun ρ h => vr_tup2 (vr_sl h (by omega) (by omega)) (.int _ _)⟩
  · try simp only [decide_eq_true_eq, decide_eq_false_iff_not, Bool.not_eq_true', Bool.not_eq_false', Bool.and_eq_true, Bool.or_eq_true, Bool.and_eq_false_iff, Bool.or_eq_false_iff, beq_iff_eq, bne_iff_ne, beq_eq_false_iff_ne, bne_eq_false_iff_eq, ne_eq, Decidable.not_not, Bool.decide_eq_true] at h1_
    first | done | omega | (exfalso; revert h1_; simp; (first | done | omega))

-- impl.PartsOf
theorem implParts0_c {r : Room} {H : AHeap} (hw : wfRoom r) (hr : ¬ okRoom r) : ACd Try.prog 27 [.agg (roomC r).toArray] H (.tuple #[.slice none 0 0, .int .i64 1]) (H) := by
  refine ac_gc0 (fun β => VR.plainT β (by first | rfl | simp [plainT, plainV, plain1])) (ac_body Try.func27 rfl Try.ntmps27 rfl ?_)
  refine aw_seq ?_
  refine aw_region ?_
  refine al_opd rfl rfl rfl (ao_boxa (by rfl)) ?_
  refine al_opd rfl rfl rfl (ao_as (v := .slice _ _ _) rfl) ?_
  refine al_opd rfl rfl rfl (ao_as (v := .int _ _) rfl) ?_
  refine al_nilT ?_
  refine aw_seq ?_
  refine aw_seq ?_
  refine aw_region ?_
  refine al_opd rfl rfl rfl (ao_loada Try.isAgg31 Try.sizeOf31 rfl (by exact HLp) (by rfl) (by exact RFp)) ?_
  refine al_opd rfl rfl rfl (ao_calld (implValid_c (r := r) (b := false) hw (no hr)) Try.call52 rfl rfl) ?_
  refine al_opd rfl rfl rfl (ao_not rfl) ?_
  refine al_nilT ?_
  refine aw_cond rfl (fun h1_ => ?_) (fun h1_ => ?_)
  · try simp only [decide_eq_true_eq, decide_eq_false_iff_not, Bool.not_eq_true', Bool.not_eq_false', Bool.and_eq_true, Bool.or_eq_true, Bool.and_eq_false_iff, Bool.or_eq_false_iff, beq_iff_eq, bne_iff_ne, beq_eq_false_iff_ne, bne_eq_false_iff_eq, ne_eq, Decidable.not_not, Bool.decide_eq_true] at h1_
    refine aw_seq ?_
    refine aw_region ?_
    refine al_opd rfl rfl rfl (ao_as (v := .slice _ _ _) rfl) ?_
    refine al_opd rfl rfl rfl (ao_as (v := .int _ _) rfl) ?_
    refine al_nilT ?_
    refine aw_ret ?_
    refine thenA_r ?_
    refine ends2 rfl (rv_tmp (v := .slice _ _ _) rfl) (rv_tmp (v := .int _ _) rfl) ?_
    exact ⟨by first | rfl | (simp [*]; (first | done | fail)), by exact SMp⟩
  · try simp only [decide_eq_true_eq, decide_eq_false_iff_not, Bool.not_eq_true', Bool.not_eq_false', Bool.and_eq_true, Bool.or_eq_true, Bool.and_eq_false_iff, Bool.or_eq_false_iff, beq_iff_eq, bne_iff_ne, beq_eq_false_iff_ne, bne_eq_false_iff_eq, ne_eq, Decidable.not_not, Bool.decide_eq_true] at h1_
    first | done | omega | (exfalso; revert h1_; simp; (first | done | omega))

end Go.Proofs.Ytkjmcolnoehjbaa
