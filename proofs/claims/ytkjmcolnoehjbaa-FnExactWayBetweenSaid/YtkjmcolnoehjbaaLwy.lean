/- Contracts of the program's functions over abstract heaps. -/
import Derived.Test.YtkjmcolnoehjbaaWay
import Derived.Test.YtkjmcolnoehjbaaRm
import Derived.Test.YtkjmcolnoehjbaaLaws
import Derived.Test.YtkjmcolnoehjbaaMark
import Derived.Test.YtkjmcolnoehjbaaWy4
import Derived.Test.YtkjmcolnoehjbaaWy5
namespace Go.Proofs.Ytkjmcolnoehjbaa
open Go Go.AW Go.Proofs
set_option linter.unusedVariables false
set_option linter.unusedSimpArgs false
set_option maxRecDepth 100000
set_option maxHeartbeats 2000000

-- laws.FnExactWayBetween
theorem lawWay1_c {r : Room} {a b : Spot} {v : Int} {H : AHeap} (hw : wfRoom r) (hwa : wfSpot a) (hwb : wfSpot b) (hcc : twoC r a b 0) (hv : mget (found r a) b = some v) : ACd Try.prog 9 [.agg (roomC r).toArray, .agg #[.int .i8 a.x, .int .i8 a.y], .agg #[.int .i8 b.x, .int .i8 b.y]] H (.bool true) (H) := by
  have ⟨hr, hfa, hfb⟩ := two_ok hcc
  have hwl := wayN_len r a b v.toNat
  have hv' := found_symm hfa hv
  have hvp := found_pos hfa hv
  refine ac_gc0 (fun β => VR.plainT β (by first | rfl | simp [plainT, plainV, plain1])) (ac_body Try.func9 rfl Try.ntmps9 rfl ?_)
  refine aw_seq ?_
  refine aw_region ?_
  refine al_opd rfl rfl rfl (ao_boxa (by rfl)) ?_
  refine al_opd rfl rfl rfl (ao_boxa (by rfl)) ?_
  refine al_opd rfl rfl rfl (ao_boxa (by rfl)) ?_
  refine al_opd rfl rfl rfl (ao_as (v := .bool _) rfl) ?_
  refine al_nilT ?_
  refine aw_seq ?_
  refine aw_draw (m := 12) mo (by kernel_rfl) rfl (fun _ _ _ h => h) ?_
  refine dw_opd rfl rfl rfl (ao_loada Try.isAgg26 Try.sizeOf26 rfl (by exact HLp) (by rfl) (by exact RFp)) ?_
  refine dw_opd rfl rfl rfl (ao_calld (toRoom_c (r := r)) Try.call11 rfl rfl) ?_
  refine dw_opd rfl rfl rfl (ao_loada Try.isAgg28 Try.sizeOf28 rfl (by exact HLp) (by rfl) (by exact RFp)) ?_
  refine dw_opd rfl rfl rfl (ao_calld (toSpot_c (s := a)) Try.call12 rfl rfl) ?_
  refine dw_opd rfl rfl rfl (ao_loada Try.isAgg28 Try.sizeOf28 rfl (by exact HLp) (by rfl) (by exact RFp)) ?_
  refine dw_opd rfl rfl rfl (ao_calld (toSpot_c (s := b)) Try.call12 rfl rfl) ?_
  refine dw_opn rfl rfl rfl (ao_calld (specWay1_c (r := r) (a := a) (b := b) hw hwa hwb hcc hv') Try.call31 rfl rfl) ?_
  refine dw_opd rfl rfl rfl (ao_mv (v := .tuple _) rfl) ?_
  refine dw_opd rfl rfl rfl (ao_extract (v := .slice _ _ _) rfl rfl) ?_
  refine dw_opd rfl rfl rfl (ao_extract (v := .int _ _) rfl rfl) ?_
  refine dw_opd rfl rfl rfl (ao_as (v := .slice _ _ _) rfl) ?_
  refine dw_opd rfl rfl rfl (ao_as (v := .int _ _) rfl) ?_
  refine dw_end ?_
  refine al_nilT ?_
  refine aw_seq ?_
  refine aw_draw (m := 12) mo (by kernel_rfl) rfl (fun _ _ _ h => h) ?_
  refine dw_opd rfl rfl rfl (ao_loada Try.isAgg26 Try.sizeOf26 rfl (by exact HLp) (by rfl) (by exact RFp)) ?_
  refine dw_opd rfl rfl rfl (ao_calld (toRoom_c (r := r)) Try.call11 rfl rfl) ?_
  refine dw_opd rfl rfl rfl (ao_loada Try.isAgg28 Try.sizeOf28 rfl (by exact HLp) (by rfl) (by exact RFp)) ?_
  refine dw_opd rfl rfl rfl (ao_calld (toSpot_c (s := a)) Try.call12 rfl rfl) ?_
  refine dw_opd rfl rfl rfl (ao_loada Try.isAgg28 Try.sizeOf28 rfl (by exact HLp) (by rfl) (by exact RFp)) ?_
  refine dw_opd rfl rfl rfl (ao_calld (toSpot_c (s := b)) Try.call12 rfl rfl) ?_
  refine dw_opn rfl rfl rfl (ao_calld (implWay1_c (r := r) (a := a) (b := b) hw hwa hwb hcc hv) Try.call32 rfl rfl) ?_
  refine dw_opd rfl rfl rfl (ao_mv (v := .tuple _) rfl) ?_
  refine dw_opd rfl rfl rfl (ao_extract (v := .slice _ _ _) rfl rfl) ?_
  refine dw_opd rfl rfl rfl (ao_extract (v := .int _ _) rfl rfl) ?_
  refine dw_opd rfl rfl rfl (ao_as (v := .slice _ _ _) rfl) ?_
  refine dw_opd rfl rfl rfl (ao_as (v := .int _ _) rfl) ?_
  refine dw_end ?_
  refine al_nilT ?_
  refine aw_seq ?_
  refine aw_seq ?_
  refine aw_region ?_
  refine al_opd rfl rfl rfl (ao_mv (v := .slice _ _ _) rfl) ?_
  refine al_opd rfl rfl rfl (ao_mv (v := .slice _ _ _) rfl) ?_
  refine al_opd rfl rfl rfl (ao_calld (eqSpotS_c (l := (wayN r a b v.toNat)) (m := (wayN r a b v.toNat)) (Sl.full spot_len (by exact HLp) rfl rfl rfl) (Sl.full spot_len (by exact HLp) rfl rfl rfl) (by omega)) Try.call19 rfl rfl) ?_
  refine al_opd rfl rfl rfl (ao_not rfl) ?_
  refine al_opd rfl rfl rfl (ao_mv (v := .bool _) rfl) ?_
  refine al_cases (d := 39) rfl (fun h1_ => ?_) (fun h1_ => ?_)
  · try simp only [decide_eq_true_eq, decide_eq_false_iff_not, Bool.not_eq_true', Bool.not_eq_false', Bool.and_eq_true, Bool.or_eq_true, Bool.and_eq_false_iff, Bool.or_eq_false_iff, beq_iff_eq, bne_iff_ne, beq_eq_false_iff_ne, bne_eq_false_iff_eq, ne_eq, Decidable.not_not, Bool.decide_eq_true] at h1_
    first | done | omega | (exfalso; revert h1_; simp; (first | done | omega))
  · try simp only [decide_eq_true_eq, decide_eq_false_iff_not, Bool.not_eq_true', Bool.not_eq_false', Bool.and_eq_true, Bool.or_eq_true, Bool.and_eq_false_iff, Bool.or_eq_false_iff, beq_iff_eq, bne_iff_ne, beq_eq_false_iff_ne, bne_eq_false_iff_eq, ne_eq, Decidable.not_not, Bool.decide_eq_true] at h1_
    refine al_gyes rfl rfl rfl rfl rfl (ao_mv (v := .int _ _) rfl) ?_
    refine al_gyes rfl rfl rfl rfl rfl (ao_mv (v := .int _ _) rfl) ?_
    refine al_gyes rfl rfl rfl rfl rfl (ao_neq rfl rfl) ?_
    refine al_opd rfl rfl rfl (ao_pickF rfl (v := .bool _) rfl) ?_
    refine al_nilT ?_
    refine aw_cond rfl (fun h2_ => ?_) (fun h2_ => ?_)
    · try simp only [decide_eq_true_eq, decide_eq_false_iff_not, Bool.not_eq_true', Bool.not_eq_false', Bool.and_eq_true, Bool.or_eq_true, Bool.and_eq_false_iff, Bool.or_eq_false_iff, beq_iff_eq, bne_iff_ne, beq_eq_false_iff_ne, bne_eq_false_iff_eq, ne_eq, Decidable.not_not, Bool.decide_eq_true] at h2_
      first | done | omega | (exfalso; revert h2_; simp; (first | done | omega))
    · try simp only [decide_eq_true_eq, decide_eq_false_iff_not, Bool.not_eq_true', Bool.not_eq_false', Bool.and_eq_true, Bool.or_eq_true, Bool.and_eq_false_iff, Bool.or_eq_false_iff, beq_iff_eq, bne_iff_ne, beq_eq_false_iff_ne, bne_eq_false_iff_eq, ne_eq, Decidable.not_not, Bool.decide_eq_true] at h2_
      refine aw_skipT ?_
      refine aw_seq ?_
      refine aw_region ?_
      refine al_opd rfl rfl rfl (ao_as (v := .int _ _) rfl) ?_
      refine al_nilT ?_
      refine aw_seq ?_
      refine aw_region ?_
      refine al_opd rfl rfl rfl (ao_mv (v := .slice _ _ _) rfl) ?_
      refine al_opd rfl rfl rfl (ao_mv (v := .int _ _) rfl) ?_
      refine al_opd rfl rfl rfl ((ao_calld (mark_spot_c (l := (wayN r a b v.toNat)) (k := 1) (by exact HLp) (by omega) (by omega)) Try.call20 rfl rfl).to (SetR.eq (by exact SRp))) ?_
      refine al_opd rfl rfl rfl (ao_as (v := .int _ _) rfl) ?_
      refine al_nilT ?_
      refine aw_seq ?_
      refine aw_region ?_
      refine al_opd rfl rfl rfl (ao_as (v := .int _ _) rfl) ?_
      refine al_nilT ?_
      refine aw_seq ?_
      refine aw_region ?_
      refine al_opd rfl rfl rfl (ao_mv (v := .slice _ _ _) rfl) ?_
      refine al_opd rfl rfl rfl (ao_mv (v := .int _ _) rfl) ?_
      refine al_opd rfl rfl rfl (ao_calld (held_spot_c (n := (wayN r a b v.toNat).length) (k := 1) (Sl.full spot_len (by exact HLp) rfl rfl (mkSpot_len _ _).symm) (by omega) (by omega)) Try.call21 rfl rfl) ?_
      refine al_opd rfl rfl rfl (ao_as (v := .int _ _) rfl) ?_
      refine al_nilT ?_
      refine aw_seq ?_
      refine aw_seq ?_
      refine aw_region ?_
      refine al_opd rfl rfl rfl (ao_mv (v := .int _ _) rfl) ?_
      refine al_opd rfl rfl rfl (ao_lss rfl rfl) ?_
      refine al_nilT ?_
      refine aw_cond rfl (fun h3_ => ?_) (fun h3_ => ?_)
      · try simp only [decide_eq_true_eq, decide_eq_false_iff_not, Bool.not_eq_true', Bool.not_eq_false', Bool.and_eq_true, Bool.or_eq_true, Bool.and_eq_false_iff, Bool.or_eq_false_iff, beq_iff_eq, bne_iff_ne, beq_eq_false_iff_ne, bne_eq_false_iff_eq, ne_eq, Decidable.not_not, Bool.decide_eq_true] at h3_
        first | done | omega | (exfalso; revert h3_; simp; (first | done | omega))
      · try simp only [decide_eq_true_eq, decide_eq_false_iff_not, Bool.not_eq_true', Bool.not_eq_false', Bool.and_eq_true, Bool.or_eq_true, Bool.and_eq_false_iff, Bool.or_eq_false_iff, beq_iff_eq, bne_iff_ne, beq_eq_false_iff_ne, bne_eq_false_iff_eq, ne_eq, Decidable.not_not, Bool.decide_eq_true] at h3_
        refine aw_skipT ?_
        refine aw_seq ?_
        refine aw_seq ?_
        refine aw_region ?_
        refine al_opd rfl rfl rfl (ao_mv (v := .int _ _) rfl) ?_
        refine al_opd rfl rfl rfl (ao_mv (v := .int _ _) rfl) ?_
        refine al_opd rfl rfl rfl (ao_neq rfl rfl) ?_
        refine al_nilT ?_
        refine aw_cond rfl (fun h4_ => ?_) (fun h4_ => ?_)
        · try simp only [decide_eq_true_eq, decide_eq_false_iff_not, Bool.not_eq_true', Bool.not_eq_false', Bool.and_eq_true, Bool.or_eq_true, Bool.and_eq_false_iff, Bool.or_eq_false_iff, beq_iff_eq, bne_iff_ne, beq_eq_false_iff_ne, bne_eq_false_iff_eq, ne_eq, Decidable.not_not, Bool.decide_eq_true] at h4_
          first | done | omega | (exfalso; revert h4_; simp; (first | done | omega))
        · try simp only [decide_eq_true_eq, decide_eq_false_iff_not, Bool.not_eq_true', Bool.not_eq_false', Bool.and_eq_true, Bool.or_eq_true, Bool.and_eq_false_iff, Bool.or_eq_false_iff, beq_iff_eq, bne_iff_ne, beq_eq_false_iff_ne, bne_eq_false_iff_eq, ne_eq, Decidable.not_not, Bool.decide_eq_true] at h4_
          refine aw_skipT ?_
          refine aw_seq ?_
          refine aw_draw (m := 12) mo (by kernel_rfl) rfl (fun _ _ _ h => h) ?_
          refine dw_opd rfl rfl rfl (ao_loada Try.isAgg26 Try.sizeOf26 rfl (by exact HLp) (by rfl) (by exact RFp)) ?_
          refine dw_opd rfl rfl rfl (ao_calld (toRoom_c (r := r)) Try.call11 rfl rfl) ?_
          refine dw_opd rfl rfl rfl (ao_loada Try.isAgg28 Try.sizeOf28 rfl (by exact HLp) (by rfl) (by exact RFp)) ?_
          refine dw_opd rfl rfl rfl (ao_calld (toSpot_c (s := a)) Try.call12 rfl rfl) ?_
          refine dw_opd rfl rfl rfl (ao_loada Try.isAgg28 Try.sizeOf28 rfl (by exact HLp) (by rfl) (by exact RFp)) ?_
          refine dw_opd rfl rfl rfl (ao_calld (toSpot_c (s := b)) Try.call12 rfl rfl) ?_
          refine dw_opn rfl rfl rfl (ao_calld (implWay1_c (r := r) (a := a) (b := b) hw hwa hwb hcc hv) Try.call32 rfl rfl) ?_
          refine dw_opd rfl rfl rfl (ao_mv (v := .tuple _) rfl) ?_
          refine dw_opd rfl rfl rfl (ao_extract (v := .slice _ _ _) rfl rfl) ?_
          refine dw_opd rfl rfl rfl (ao_extract (v := .int _ _) rfl rfl) ?_
          refine dw_opd rfl rfl rfl (ao_as (v := .slice _ _ _) rfl) ?_
          refine dw_opd rfl rfl rfl (ao_as (v := .int _ _) rfl) ?_
          refine dw_end ?_
          refine al_nilT ?_
          refine aw_seq ?_
          refine aw_seq ?_
          refine aw_region ?_
          refine al_opd rfl rfl rfl (ao_mv (v := .slice _ _ _) rfl) ?_
          refine al_opd rfl rfl rfl (ao_mv (v := .slice _ _ _) rfl) ?_
          refine al_opd rfl rfl rfl (ao_calld (eqSpotS_c (l := (wayN r a b v.toNat)) (m := (wayN r a b v.toNat)) (Sl.full spot_len (by exact HLp) rfl rfl rfl) (Sl.full spot_len (by exact HLp) rfl rfl rfl) (by omega)) Try.call19 rfl rfl) ?_
          refine al_opd rfl rfl rfl (ao_not rfl) ?_
          refine al_opd rfl rfl rfl (ao_mv (v := .bool _) rfl) ?_
          refine al_cases (d := 69) rfl (fun h5_ => ?_) (fun h5_ => ?_)
          · try simp only [decide_eq_true_eq, decide_eq_false_iff_not, Bool.not_eq_true', Bool.not_eq_false', Bool.and_eq_true, Bool.or_eq_true, Bool.and_eq_false_iff, Bool.or_eq_false_iff, beq_iff_eq, bne_iff_ne, beq_eq_false_iff_ne, bne_eq_false_iff_eq, ne_eq, Decidable.not_not, Bool.decide_eq_true] at h5_
            first | done | omega | (exfalso; revert h5_; simp; (first | done | omega))
          · try simp only [decide_eq_true_eq, decide_eq_false_iff_not, Bool.not_eq_true', Bool.not_eq_false', Bool.and_eq_true, Bool.or_eq_true, Bool.and_eq_false_iff, Bool.or_eq_false_iff, beq_iff_eq, bne_iff_ne, beq_eq_false_iff_ne, bne_eq_false_iff_eq, ne_eq, Decidable.not_not, Bool.decide_eq_true] at h5_
            refine al_gyes rfl rfl rfl rfl rfl (ao_mv (v := .int _ _) rfl) ?_
            refine al_gyes rfl rfl rfl rfl rfl (ao_mv (v := .int _ _) rfl) ?_
            refine al_gyes rfl rfl rfl rfl rfl (ao_neq rfl rfl) ?_
            refine al_opd rfl rfl rfl (ao_pickF rfl (v := .bool _) rfl) ?_
            refine al_nilT ?_
            refine aw_cond rfl (fun h6_ => ?_) (fun h6_ => ?_)
            · try simp only [decide_eq_true_eq, decide_eq_false_iff_not, Bool.not_eq_true', Bool.not_eq_false', Bool.and_eq_true, Bool.or_eq_true, Bool.and_eq_false_iff, Bool.or_eq_false_iff, beq_iff_eq, bne_iff_ne, beq_eq_false_iff_ne, bne_eq_false_iff_eq, ne_eq, Decidable.not_not, Bool.decide_eq_true] at h6_
              first | done | omega | (exfalso; revert h6_; simp; (first | done | omega))
            · try simp only [decide_eq_true_eq, decide_eq_false_iff_not, Bool.not_eq_true', Bool.not_eq_false', Bool.and_eq_true, Bool.or_eq_true, Bool.and_eq_false_iff, Bool.or_eq_false_iff, beq_iff_eq, bne_iff_ne, beq_eq_false_iff_ne, bne_eq_false_iff_eq, ne_eq, Decidable.not_not, Bool.decide_eq_true] at h6_
              refine aw_skipT ?_
              refine aw_seq ?_
              refine aw_region ?_
              refine al_opd rfl rfl rfl (ao_as (v := .int _ _) rfl) ?_
              refine al_nilT ?_
              refine aw_seq ?_
              refine aw_region ?_
              refine al_opd rfl rfl rfl (ao_mv (v := .slice _ _ _) rfl) ?_
              refine al_opd rfl rfl rfl (ao_mv (v := .int _ _) rfl) ?_
              refine al_opd rfl rfl rfl (ao_calld (held_spot_c (n := (wayN r a b v.toNat).length) (k := 1) (Sl.full spot_len (by exact HLp) rfl rfl (mkSpot_len _ _).symm) (by omega) (by omega)) Try.call21 rfl rfl) ?_
              refine al_opd rfl rfl rfl (ao_as (v := .int _ _) rfl) ?_
              refine al_nilT ?_
              refine aw_seq ?_
              refine aw_seq ?_
              refine aw_region ?_
              refine al_opd rfl rfl rfl (ao_mv (v := .int _ _) rfl) ?_
              refine al_opd rfl rfl rfl (ao_lss rfl rfl) ?_
              refine al_nilT ?_
              refine aw_cond rfl (fun h7_ => ?_) (fun h7_ => ?_)
              · try simp only [decide_eq_true_eq, decide_eq_false_iff_not, Bool.not_eq_true', Bool.not_eq_false', Bool.and_eq_true, Bool.or_eq_true, Bool.and_eq_false_iff, Bool.or_eq_false_iff, beq_iff_eq, bne_iff_ne, beq_eq_false_iff_ne, bne_eq_false_iff_eq, ne_eq, Decidable.not_not, Bool.decide_eq_true] at h7_
                first | done | omega | (exfalso; revert h7_; simp; (first | done | omega))
              · try simp only [decide_eq_true_eq, decide_eq_false_iff_not, Bool.not_eq_true', Bool.not_eq_false', Bool.and_eq_true, Bool.or_eq_true, Bool.and_eq_false_iff, Bool.or_eq_false_iff, beq_iff_eq, bne_iff_ne, beq_eq_false_iff_ne, bne_eq_false_iff_eq, ne_eq, Decidable.not_not, Bool.decide_eq_true] at h7_
                refine aw_skipT ?_
                refine aw_seq ?_
                refine aw_seq ?_
                refine aw_region ?_
                refine al_opd rfl rfl rfl (ao_mv (v := .int _ _) rfl) ?_
                refine al_opd rfl rfl rfl (ao_mv (v := .int _ _) rfl) ?_
                refine al_opd rfl rfl rfl (ao_neq rfl rfl) ?_
                refine al_nilT ?_
                refine aw_cond rfl (fun h8_ => ?_) (fun h8_ => ?_)
                · try simp only [decide_eq_true_eq, decide_eq_false_iff_not, Bool.not_eq_true', Bool.not_eq_false', Bool.and_eq_true, Bool.or_eq_true, Bool.and_eq_false_iff, Bool.or_eq_false_iff, beq_iff_eq, bne_iff_ne, beq_eq_false_iff_ne, bne_eq_false_iff_eq, ne_eq, Decidable.not_not, Bool.decide_eq_true] at h8_
                  first | done | omega | (exfalso; revert h8_; simp; (first | done | omega))
                · try simp only [decide_eq_true_eq, decide_eq_false_iff_not, Bool.not_eq_true', Bool.not_eq_false', Bool.and_eq_true, Bool.or_eq_true, Bool.and_eq_false_iff, Bool.or_eq_false_iff, beq_iff_eq, bne_iff_ne, beq_eq_false_iff_ne, bne_eq_false_iff_eq, ne_eq, Decidable.not_not, Bool.decide_eq_true] at h8_
                  refine aw_skipT ?_
                  refine aw_seq ?_
                  refine aw_region ?_
                  refine al_opd rfl rfl rfl (ao_as (v := .bool _) rfl) ?_
                  refine al_nilT ?_
                  refine aw_ret ?_
                  refine ends1 rfl (rv_tmp (v := .bool _) rfl) ?_
                  exact ⟨by first | rfl | (simp [*]; (first | done | fail)), by exact SMp⟩

-- laws.FnExactWayBetween
theorem lawWay6_c {r : Room} {a b : Spot} {H : AHeap} (hw : wfRoom r) (hwa : wfSpot a) (hwb : wfSpot b) (hcc : twoC r a b 0) (hv : mget (found r a) b = none) : ACd Try.prog 9 [.agg (roomC r).toArray, .agg #[.int .i8 a.x, .int .i8 a.y], .agg #[.int .i8 b.x, .int .i8 b.y]] H (.bool true) (H) := by
  have ⟨hr, hfa, hfb⟩ := two_ok hcc
  have hv' : mget (found r b) a = none := found_symm_no hfb hv
  refine ac_gc0 (fun β => VR.plainT β (by first | rfl | simp [plainT, plainV, plain1])) (ac_body Try.func9 rfl Try.ntmps9 rfl ?_)
  refine aw_seq ?_
  refine aw_region ?_
  refine al_opd rfl rfl rfl (ao_boxa (by rfl)) ?_
  refine al_opd rfl rfl rfl (ao_boxa (by rfl)) ?_
  refine al_opd rfl rfl rfl (ao_boxa (by rfl)) ?_
  refine al_opd rfl rfl rfl (ao_as (v := .bool _) rfl) ?_
  refine al_nilT ?_
  refine aw_seq ?_
  refine aw_draw (m := 12) mo (by kernel_rfl) rfl (fun _ _ _ h => h) ?_
  refine dw_opd rfl rfl rfl (ao_loada Try.isAgg26 Try.sizeOf26 rfl (by exact HLp) (by rfl) (by exact RFp)) ?_
  refine dw_opd rfl rfl rfl (ao_calld (toRoom_c (r := r)) Try.call11 rfl rfl) ?_
  refine dw_opd rfl rfl rfl (ao_loada Try.isAgg28 Try.sizeOf28 rfl (by exact HLp) (by rfl) (by exact RFp)) ?_
  refine dw_opd rfl rfl rfl (ao_calld (toSpot_c (s := a)) Try.call12 rfl rfl) ?_
  refine dw_opd rfl rfl rfl (ao_loada Try.isAgg28 Try.sizeOf28 rfl (by exact HLp) (by rfl) (by exact RFp)) ?_
  refine dw_opd rfl rfl rfl (ao_calld (toSpot_c (s := b)) Try.call12 rfl rfl) ?_
  refine dw_opn rfl rfl rfl (ao_calld (specWay6_c (r := r) (a := a) (b := b) hw hwa hwb hcc hv') Try.call31 rfl rfl) ?_
  refine dw_opd rfl rfl rfl (ao_mv (v := .tuple _) rfl) ?_
  refine dw_opd rfl rfl rfl (ao_extract (v := .slice _ _ _) rfl rfl) ?_
  refine dw_opd rfl rfl rfl (ao_extract (v := .int _ _) rfl rfl) ?_
  refine dw_opd rfl rfl rfl (ao_as (v := .slice _ _ _) rfl) ?_
  refine dw_opd rfl rfl rfl (ao_as (v := .int _ _) rfl) ?_
  refine dw_end ?_
  refine al_nilT ?_
  refine aw_seq ?_
  refine aw_draw (m := 12) mo (by kernel_rfl) rfl (fun _ _ _ h => h) ?_
  refine dw_opd rfl rfl rfl (ao_loada Try.isAgg26 Try.sizeOf26 rfl (by exact HLp) (by rfl) (by exact RFp)) ?_
  refine dw_opd rfl rfl rfl (ao_calld (toRoom_c (r := r)) Try.call11 rfl rfl) ?_
  refine dw_opd rfl rfl rfl (ao_loada Try.isAgg28 Try.sizeOf28 rfl (by exact HLp) (by rfl) (by exact RFp)) ?_
  refine dw_opd rfl rfl rfl (ao_calld (toSpot_c (s := a)) Try.call12 rfl rfl) ?_
  refine dw_opd rfl rfl rfl (ao_loada Try.isAgg28 Try.sizeOf28 rfl (by exact HLp) (by rfl) (by exact RFp)) ?_
  refine dw_opd rfl rfl rfl (ao_calld (toSpot_c (s := b)) Try.call12 rfl rfl) ?_
  refine dw_opd rfl rfl rfl (ao_calld (implWay6_c (r := r) (a := a) (b := b) hw hwa hwb hcc hv) Try.call32 rfl rfl) ?_
  refine dw_opd rfl rfl rfl (ao_mv (v := .tuple _) rfl) ?_
  refine dw_opd rfl rfl rfl (ao_extract (v := .slice _ _ _) rfl rfl) ?_
  refine dw_opd rfl rfl rfl (ao_extract (v := .int _ _) rfl rfl) ?_
  refine dw_opd rfl rfl rfl (ao_as (v := .slice _ _ _) rfl) ?_
  refine dw_opd rfl rfl rfl (ao_as (v := .int _ _) rfl) ?_
  refine dw_end ?_
  refine al_nilT ?_
  refine aw_seq ?_
  refine aw_seq ?_
  refine aw_region ?_
  refine al_opd rfl rfl rfl (ao_mv (v := .slice _ _ _) rfl) ?_
  refine al_opd rfl rfl rfl (ao_mv (v := .slice _ _ _) rfl) ?_
  refine al_opd rfl rfl rfl (ao_calld (eqSpotS_c (l := []) (m := []) Sl.nil Sl.zero (by simp)) Try.call19 rfl rfl) ?_
  refine al_opd rfl rfl rfl (ao_not rfl) ?_
  refine al_opd rfl rfl rfl (ao_mv (v := .bool _) rfl) ?_
  refine al_cases (d := 39) rfl (fun h1_ => ?_) (fun h1_ => ?_)
  · try simp only [decide_eq_true_eq, decide_eq_false_iff_not, Bool.not_eq_true', Bool.not_eq_false', Bool.and_eq_true, Bool.or_eq_true, Bool.and_eq_false_iff, Bool.or_eq_false_iff, beq_iff_eq, bne_iff_ne, beq_eq_false_iff_ne, bne_eq_false_iff_eq, ne_eq, Decidable.not_not, Bool.decide_eq_true] at h1_
    first | done | omega | (exfalso; revert h1_; simp; (first | done | omega))
  · try simp only [decide_eq_true_eq, decide_eq_false_iff_not, Bool.not_eq_true', Bool.not_eq_false', Bool.and_eq_true, Bool.or_eq_true, Bool.and_eq_false_iff, Bool.or_eq_false_iff, beq_iff_eq, bne_iff_ne, beq_eq_false_iff_ne, bne_eq_false_iff_eq, ne_eq, Decidable.not_not, Bool.decide_eq_true] at h1_
    refine al_gyes rfl rfl rfl rfl rfl (ao_mv (v := .int _ _) rfl) ?_
    refine al_gyes rfl rfl rfl rfl rfl (ao_mv (v := .int _ _) rfl) ?_
    refine al_gyes rfl rfl rfl rfl rfl (ao_neq rfl rfl) ?_
    refine al_opd rfl rfl rfl (ao_pickF rfl (v := .bool _) rfl) ?_
    refine al_nilT ?_
    refine aw_cond rfl (fun h2_ => ?_) (fun h2_ => ?_)
    · try simp only [decide_eq_true_eq, decide_eq_false_iff_not, Bool.not_eq_true', Bool.not_eq_false', Bool.and_eq_true, Bool.or_eq_true, Bool.and_eq_false_iff, Bool.or_eq_false_iff, beq_iff_eq, bne_iff_ne, beq_eq_false_iff_ne, bne_eq_false_iff_eq, ne_eq, Decidable.not_not, Bool.decide_eq_true] at h2_
      first | done | omega | (exfalso; revert h2_; simp; (first | done | omega))
    · try simp only [decide_eq_true_eq, decide_eq_false_iff_not, Bool.not_eq_true', Bool.not_eq_false', Bool.and_eq_true, Bool.or_eq_true, Bool.and_eq_false_iff, Bool.or_eq_false_iff, beq_iff_eq, bne_iff_ne, beq_eq_false_iff_ne, bne_eq_false_iff_eq, ne_eq, Decidable.not_not, Bool.decide_eq_true] at h2_
      refine aw_skipT ?_
      refine aw_seq ?_
      refine aw_region ?_
      refine al_opd rfl rfl rfl (ao_as (v := .int _ _) rfl) ?_
      refine al_nilT ?_
      refine aw_seq ?_
      refine aw_region ?_
      refine al_opd rfl rfl rfl (ao_mv (v := .slice _ _ _) rfl) ?_
      refine al_opd rfl rfl rfl (ao_mv (v := .int _ _) rfl) ?_
      refine al_opd rfl rfl rfl (ao_calld (mark0_spot_c (k := 1)) Try.call20 rfl rfl) ?_
      refine al_opd rfl rfl rfl (ao_as (v := .int _ _) rfl) ?_
      refine al_nilT ?_
      refine aw_seq ?_
      refine aw_region ?_
      refine al_opd rfl rfl rfl (ao_as (v := .int _ _) rfl) ?_
      refine al_nilT ?_
      refine aw_seq ?_
      refine aw_region ?_
      refine al_opd rfl rfl rfl (ao_mv (v := .slice _ _ _) rfl) ?_
      refine al_opd rfl rfl rfl (ao_mv (v := .int _ _) rfl) ?_
      refine al_opd rfl rfl rfl (ao_calld (held_spot_c (n := 0) (k := 1) Sl.nil (by omega) (by omega)) Try.call21 rfl rfl) ?_
      refine al_opd rfl rfl rfl (ao_as (v := .int _ _) rfl) ?_
      refine al_nilT ?_
      refine aw_seq ?_
      refine aw_seq ?_
      refine aw_region ?_
      refine al_opd rfl rfl rfl (ao_mv (v := .int _ _) rfl) ?_
      refine al_opd rfl rfl rfl (ao_lss rfl rfl) ?_
      refine al_nilT ?_
      refine aw_cond rfl (fun h3_ => ?_) (fun h3_ => ?_)
      · try simp only [decide_eq_true_eq, decide_eq_false_iff_not, Bool.not_eq_true', Bool.not_eq_false', Bool.and_eq_true, Bool.or_eq_true, Bool.and_eq_false_iff, Bool.or_eq_false_iff, beq_iff_eq, bne_iff_ne, beq_eq_false_iff_ne, bne_eq_false_iff_eq, ne_eq, Decidable.not_not, Bool.decide_eq_true] at h3_
        first | done | omega | (exfalso; revert h3_; simp; (first | done | omega))
      · try simp only [decide_eq_true_eq, decide_eq_false_iff_not, Bool.not_eq_true', Bool.not_eq_false', Bool.and_eq_true, Bool.or_eq_true, Bool.and_eq_false_iff, Bool.or_eq_false_iff, beq_iff_eq, bne_iff_ne, beq_eq_false_iff_ne, bne_eq_false_iff_eq, ne_eq, Decidable.not_not, Bool.decide_eq_true] at h3_
        refine aw_skipT ?_
        refine aw_seq ?_
        refine aw_seq ?_
        refine aw_region ?_
        refine al_opd rfl rfl rfl (ao_mv (v := .int _ _) rfl) ?_
        refine al_opd rfl rfl rfl (ao_mv (v := .int _ _) rfl) ?_
        refine al_opd rfl rfl rfl (ao_neq rfl rfl) ?_
        refine al_nilT ?_
        refine aw_cond rfl (fun h4_ => ?_) (fun h4_ => ?_)
        · try simp only [decide_eq_true_eq, decide_eq_false_iff_not, Bool.not_eq_true', Bool.not_eq_false', Bool.and_eq_true, Bool.or_eq_true, Bool.and_eq_false_iff, Bool.or_eq_false_iff, beq_iff_eq, bne_iff_ne, beq_eq_false_iff_ne, bne_eq_false_iff_eq, ne_eq, Decidable.not_not, Bool.decide_eq_true] at h4_
          first | done | omega | (exfalso; revert h4_; simp; (first | done | omega))
        · try simp only [decide_eq_true_eq, decide_eq_false_iff_not, Bool.not_eq_true', Bool.not_eq_false', Bool.and_eq_true, Bool.or_eq_true, Bool.and_eq_false_iff, Bool.or_eq_false_iff, beq_iff_eq, bne_iff_ne, beq_eq_false_iff_ne, bne_eq_false_iff_eq, ne_eq, Decidable.not_not, Bool.decide_eq_true] at h4_
          refine aw_skipT ?_
          refine aw_seq ?_
          refine aw_draw (m := 12) mo (by kernel_rfl) rfl (fun _ _ _ h => h) ?_
          refine dw_opd rfl rfl rfl (ao_loada Try.isAgg26 Try.sizeOf26 rfl (by exact HLp) (by rfl) (by exact RFp)) ?_
          refine dw_opd rfl rfl rfl (ao_calld (toRoom_c (r := r)) Try.call11 rfl rfl) ?_
          refine dw_opd rfl rfl rfl (ao_loada Try.isAgg28 Try.sizeOf28 rfl (by exact HLp) (by rfl) (by exact RFp)) ?_
          refine dw_opd rfl rfl rfl (ao_calld (toSpot_c (s := a)) Try.call12 rfl rfl) ?_
          refine dw_opd rfl rfl rfl (ao_loada Try.isAgg28 Try.sizeOf28 rfl (by exact HLp) (by rfl) (by exact RFp)) ?_
          refine dw_opd rfl rfl rfl (ao_calld (toSpot_c (s := b)) Try.call12 rfl rfl) ?_
          refine dw_opd rfl rfl rfl (ao_calld (implWay6_c (r := r) (a := a) (b := b) hw hwa hwb hcc hv) Try.call32 rfl rfl) ?_
          refine dw_opd rfl rfl rfl (ao_mv (v := .tuple _) rfl) ?_
          refine dw_opd rfl rfl rfl (ao_extract (v := .slice _ _ _) rfl rfl) ?_
          refine dw_opd rfl rfl rfl (ao_extract (v := .int _ _) rfl rfl) ?_
          refine dw_opd rfl rfl rfl (ao_as (v := .slice _ _ _) rfl) ?_
          refine dw_opd rfl rfl rfl (ao_as (v := .int _ _) rfl) ?_
          refine dw_end ?_
          refine al_nilT ?_
          refine aw_seq ?_
          refine aw_seq ?_
          refine aw_region ?_
          refine al_opd rfl rfl rfl (ao_mv (v := .slice _ _ _) rfl) ?_
          refine al_opd rfl rfl rfl (ao_mv (v := .slice _ _ _) rfl) ?_
          refine al_opd rfl rfl rfl (ao_calld (eqSpotS_c (l := []) (m := []) Sl.nil Sl.zero (by simp)) Try.call19 rfl rfl) ?_
          refine al_opd rfl rfl rfl (ao_not rfl) ?_
          refine al_opd rfl rfl rfl (ao_mv (v := .bool _) rfl) ?_
          refine al_cases (d := 69) rfl (fun h5_ => ?_) (fun h5_ => ?_)
          · try simp only [decide_eq_true_eq, decide_eq_false_iff_not, Bool.not_eq_true', Bool.not_eq_false', Bool.and_eq_true, Bool.or_eq_true, Bool.and_eq_false_iff, Bool.or_eq_false_iff, beq_iff_eq, bne_iff_ne, beq_eq_false_iff_ne, bne_eq_false_iff_eq, ne_eq, Decidable.not_not, Bool.decide_eq_true] at h5_
            first | done | omega | (exfalso; revert h5_; simp; (first | done | omega))
          · try simp only [decide_eq_true_eq, decide_eq_false_iff_not, Bool.not_eq_true', Bool.not_eq_false', Bool.and_eq_true, Bool.or_eq_true, Bool.and_eq_false_iff, Bool.or_eq_false_iff, beq_iff_eq, bne_iff_ne, beq_eq_false_iff_ne, bne_eq_false_iff_eq, ne_eq, Decidable.not_not, Bool.decide_eq_true] at h5_
            refine al_gyes rfl rfl rfl rfl rfl (ao_mv (v := .int _ _) rfl) ?_
            refine al_gyes rfl rfl rfl rfl rfl (ao_mv (v := .int _ _) rfl) ?_
            refine al_gyes rfl rfl rfl rfl rfl (ao_neq rfl rfl) ?_
            refine al_opd rfl rfl rfl (ao_pickF rfl (v := .bool _) rfl) ?_
            refine al_nilT ?_
            refine aw_cond rfl (fun h6_ => ?_) (fun h6_ => ?_)
            · try simp only [decide_eq_true_eq, decide_eq_false_iff_not, Bool.not_eq_true', Bool.not_eq_false', Bool.and_eq_true, Bool.or_eq_true, Bool.and_eq_false_iff, Bool.or_eq_false_iff, beq_iff_eq, bne_iff_ne, beq_eq_false_iff_ne, bne_eq_false_iff_eq, ne_eq, Decidable.not_not, Bool.decide_eq_true] at h6_
              first | done | omega | (exfalso; revert h6_; simp; (first | done | omega))
            · try simp only [decide_eq_true_eq, decide_eq_false_iff_not, Bool.not_eq_true', Bool.not_eq_false', Bool.and_eq_true, Bool.or_eq_true, Bool.and_eq_false_iff, Bool.or_eq_false_iff, beq_iff_eq, bne_iff_ne, beq_eq_false_iff_ne, bne_eq_false_iff_eq, ne_eq, Decidable.not_not, Bool.decide_eq_true] at h6_
              refine aw_skipT ?_
              refine aw_seq ?_
              refine aw_region ?_
              refine al_opd rfl rfl rfl (ao_as (v := .int _ _) rfl) ?_
              refine al_nilT ?_
              refine aw_seq ?_
              refine aw_region ?_
              refine al_opd rfl rfl rfl (ao_mv (v := .slice _ _ _) rfl) ?_
              refine al_opd rfl rfl rfl (ao_mv (v := .int _ _) rfl) ?_
              refine al_opd rfl rfl rfl (ao_calld (held_spot_c (n := 0) (k := 1) Sl.nil (by omega) (by omega)) Try.call21 rfl rfl) ?_
              refine al_opd rfl rfl rfl (ao_as (v := .int _ _) rfl) ?_
              refine al_nilT ?_
              refine aw_seq ?_
              refine aw_seq ?_
              refine aw_region ?_
              refine al_opd rfl rfl rfl (ao_mv (v := .int _ _) rfl) ?_
              refine al_opd rfl rfl rfl (ao_lss rfl rfl) ?_
              refine al_nilT ?_
              refine aw_cond rfl (fun h7_ => ?_) (fun h7_ => ?_)
              · try simp only [decide_eq_true_eq, decide_eq_false_iff_not, Bool.not_eq_true', Bool.not_eq_false', Bool.and_eq_true, Bool.or_eq_true, Bool.and_eq_false_iff, Bool.or_eq_false_iff, beq_iff_eq, bne_iff_ne, beq_eq_false_iff_ne, bne_eq_false_iff_eq, ne_eq, Decidable.not_not, Bool.decide_eq_true] at h7_
                first | done | omega | (exfalso; revert h7_; simp; (first | done | omega))
              · try simp only [decide_eq_true_eq, decide_eq_false_iff_not, Bool.not_eq_true', Bool.not_eq_false', Bool.and_eq_true, Bool.or_eq_true, Bool.and_eq_false_iff, Bool.or_eq_false_iff, beq_iff_eq, bne_iff_ne, beq_eq_false_iff_ne, bne_eq_false_iff_eq, ne_eq, Decidable.not_not, Bool.decide_eq_true] at h7_
                refine aw_skipT ?_
                refine aw_seq ?_
                refine aw_seq ?_
                refine aw_region ?_
                refine al_opd rfl rfl rfl (ao_mv (v := .int _ _) rfl) ?_
                refine al_opd rfl rfl rfl (ao_mv (v := .int _ _) rfl) ?_
                refine al_opd rfl rfl rfl (ao_neq rfl rfl) ?_
                refine al_nilT ?_
                refine aw_cond rfl (fun h8_ => ?_) (fun h8_ => ?_)
                · try simp only [decide_eq_true_eq, decide_eq_false_iff_not, Bool.not_eq_true', Bool.not_eq_false', Bool.and_eq_true, Bool.or_eq_true, Bool.and_eq_false_iff, Bool.or_eq_false_iff, beq_iff_eq, bne_iff_ne, beq_eq_false_iff_ne, bne_eq_false_iff_eq, ne_eq, Decidable.not_not, Bool.decide_eq_true] at h8_
                  first | done | omega | (exfalso; revert h8_; simp; (first | done | omega))
                · try simp only [decide_eq_true_eq, decide_eq_false_iff_not, Bool.not_eq_true', Bool.not_eq_false', Bool.and_eq_true, Bool.or_eq_true, Bool.and_eq_false_iff, Bool.or_eq_false_iff, beq_iff_eq, bne_iff_ne, beq_eq_false_iff_ne, bne_eq_false_iff_eq, ne_eq, Decidable.not_not, Bool.decide_eq_true] at h8_
                  refine aw_skipT ?_
                  refine aw_seq ?_
                  refine aw_region ?_
                  refine al_opd rfl rfl rfl (ao_as (v := .bool _) rfl) ?_
                  refine al_nilT ?_
                  refine aw_ret ?_
                  refine ends1 rfl (rv_tmp (v := .bool _) rfl) ?_
                  exact ⟨by first | rfl | (simp [*]; (first | done | fail)), by exact SMp⟩

-- laws.FnExactWayBetween
theorem lawWay0_c {r : Room} {a b : Spot} {c : Int} {H : AHeap} (hw : wfRoom r) (hwa : wfSpot a) (hwb : wfSpot b) (hcc : twoC r a b c) (h0 : c ≠ 0) : ACd Try.prog 9 [.agg (roomC r).toArray, .agg #[.int .i8 a.x, .int .i8 a.y], .agg #[.int .i8 b.x, .int .i8 b.y]] H (.bool true) (H) := by
  refine ac_gc0 (fun β => VR.plainT β (by first | rfl | simp [plainT, plainV, plain1])) (ac_body Try.func9 rfl Try.ntmps9 rfl ?_)
  refine aw_seq ?_
  refine aw_region ?_
  refine al_opd rfl rfl rfl (ao_boxa (by rfl)) ?_
  refine al_opd rfl rfl rfl (ao_boxa (by rfl)) ?_
  refine al_opd rfl rfl rfl (ao_boxa (by rfl)) ?_
  refine al_opd rfl rfl rfl (ao_as (v := .bool _) rfl) ?_
  refine al_nilT ?_
  refine aw_seq ?_
  refine aw_draw (m := 12) mo (by kernel_rfl) rfl (fun _ _ _ h => h) ?_
  refine dw_opd rfl rfl rfl (ao_loada Try.isAgg26 Try.sizeOf26 rfl (by exact HLp) (by rfl) (by exact RFp)) ?_
  refine dw_opd rfl rfl rfl (ao_calld (toRoom_c (r := r)) Try.call11 rfl rfl) ?_
  refine dw_opd rfl rfl rfl (ao_loada Try.isAgg28 Try.sizeOf28 rfl (by exact HLp) (by rfl) (by exact RFp)) ?_
  refine dw_opd rfl rfl rfl (ao_calld (toSpot_c (s := a)) Try.call12 rfl rfl) ?_
  refine dw_opd rfl rfl rfl (ao_loada Try.isAgg28 Try.sizeOf28 rfl (by exact HLp) (by rfl) (by exact RFp)) ?_
  refine dw_opd rfl rfl rfl (ao_calld (toSpot_c (s := b)) Try.call12 rfl rfl) ?_
  refine dw_opn rfl rfl rfl (ao_calld (specWay0_c (r := r) (a := a) (b := b) hw hwa hwb hcc h0) Try.call31 rfl rfl) ?_
  refine dw_opd rfl rfl rfl (ao_mv (v := .tuple _) rfl) ?_
  refine dw_opd rfl rfl rfl (ao_extract (v := .slice _ _ _) rfl rfl) ?_
  refine dw_opd rfl rfl rfl (ao_extract (v := .int _ _) rfl rfl) ?_
  refine dw_opd rfl rfl rfl (ao_as (v := .slice _ _ _) rfl) ?_
  refine dw_opd rfl rfl rfl (ao_as (v := .int _ _) rfl) ?_
  refine dw_end ?_
  refine al_nilT ?_
  refine aw_seq ?_
  refine aw_draw (m := 12) mo (by kernel_rfl) rfl (fun _ _ _ h => h) ?_
  refine dw_opd rfl rfl rfl (ao_loada Try.isAgg26 Try.sizeOf26 rfl (by exact HLp) (by rfl) (by exact RFp)) ?_
  refine dw_opd rfl rfl rfl (ao_calld (toRoom_c (r := r)) Try.call11 rfl rfl) ?_
  refine dw_opd rfl rfl rfl (ao_loada Try.isAgg28 Try.sizeOf28 rfl (by exact HLp) (by rfl) (by exact RFp)) ?_
  refine dw_opd rfl rfl rfl (ao_calld (toSpot_c (s := a)) Try.call12 rfl rfl) ?_
  refine dw_opd rfl rfl rfl (ao_loada Try.isAgg28 Try.sizeOf28 rfl (by exact HLp) (by rfl) (by exact RFp)) ?_
  refine dw_opd rfl rfl rfl (ao_calld (toSpot_c (s := b)) Try.call12 rfl rfl) ?_
  refine dw_opd rfl rfl rfl (ao_calld (implWay0_c (r := r) (a := a) (b := b) hw hwa hwb hcc h0) Try.call32 rfl rfl) ?_
  refine dw_opd rfl rfl rfl (ao_mv (v := .tuple _) rfl) ?_
  refine dw_opd rfl rfl rfl (ao_extract (v := .slice _ _ _) rfl rfl) ?_
  refine dw_opd rfl rfl rfl (ao_extract (v := .int _ _) rfl rfl) ?_
  refine dw_opd rfl rfl rfl (ao_as (v := .slice _ _ _) rfl) ?_
  refine dw_opd rfl rfl rfl (ao_as (v := .int _ _) rfl) ?_
  refine dw_end ?_
  refine al_nilT ?_
  refine aw_seq ?_
  refine aw_seq ?_
  refine aw_region ?_
  refine al_opd rfl rfl rfl (ao_mv (v := .slice _ _ _) rfl) ?_
  refine al_opd rfl rfl rfl (ao_mv (v := .slice _ _ _) rfl) ?_
  refine al_opd rfl rfl rfl (ao_calld (eqSpotS_c (l := []) (m := []) Sl.nil Sl.zero (by simp)) Try.call19 rfl rfl) ?_
  refine al_opd rfl rfl rfl (ao_not rfl) ?_
  refine al_opd rfl rfl rfl (ao_mv (v := .bool _) rfl) ?_
  refine al_cases (d := 39) rfl (fun h1_ => ?_) (fun h1_ => ?_)
  · try simp only [decide_eq_true_eq, decide_eq_false_iff_not, Bool.not_eq_true', Bool.not_eq_false', Bool.and_eq_true, Bool.or_eq_true, Bool.and_eq_false_iff, Bool.or_eq_false_iff, beq_iff_eq, bne_iff_ne, beq_eq_false_iff_ne, bne_eq_false_iff_eq, ne_eq, Decidable.not_not, Bool.decide_eq_true] at h1_
    first | done | omega | (exfalso; revert h1_; simp; (first | done | omega))
  · try simp only [decide_eq_true_eq, decide_eq_false_iff_not, Bool.not_eq_true', Bool.not_eq_false', Bool.and_eq_true, Bool.or_eq_true, Bool.and_eq_false_iff, Bool.or_eq_false_iff, beq_iff_eq, bne_iff_ne, beq_eq_false_iff_ne, bne_eq_false_iff_eq, ne_eq, Decidable.not_not, Bool.decide_eq_true] at h1_
    refine al_gyes rfl rfl rfl rfl rfl (ao_mv (v := .int _ _) rfl) ?_
    refine al_gyes rfl rfl rfl rfl rfl (ao_mv (v := .int _ _) rfl) ?_
    refine al_gyes rfl rfl rfl rfl rfl (ao_neq rfl rfl) ?_
    refine al_opd rfl rfl rfl (ao_pickF rfl (v := .bool _) rfl) ?_
    refine al_nilT ?_
    refine aw_cond rfl (fun h2_ => ?_) (fun h2_ => ?_)
    · try simp only [decide_eq_true_eq, decide_eq_false_iff_not, Bool.not_eq_true', Bool.not_eq_false', Bool.and_eq_true, Bool.or_eq_true, Bool.and_eq_false_iff, Bool.or_eq_false_iff, beq_iff_eq, bne_iff_ne, beq_eq_false_iff_ne, bne_eq_false_iff_eq, ne_eq, Decidable.not_not, Bool.decide_eq_true] at h2_
      first | done | omega | (exfalso; revert h2_; simp; (first | done | omega))
    · try simp only [decide_eq_true_eq, decide_eq_false_iff_not, Bool.not_eq_true', Bool.not_eq_false', Bool.and_eq_true, Bool.or_eq_true, Bool.and_eq_false_iff, Bool.or_eq_false_iff, beq_iff_eq, bne_iff_ne, beq_eq_false_iff_ne, bne_eq_false_iff_eq, ne_eq, Decidable.not_not, Bool.decide_eq_true] at h2_
      refine aw_skipT ?_
      refine aw_seq ?_
      refine aw_region ?_
      refine al_opd rfl rfl rfl (ao_as (v := .int _ _) rfl) ?_
      refine al_nilT ?_
      refine aw_seq ?_
      refine aw_region ?_
      refine al_opd rfl rfl rfl (ao_mv (v := .slice _ _ _) rfl) ?_
      refine al_opd rfl rfl rfl (ao_mv (v := .int _ _) rfl) ?_
      refine al_opd rfl rfl rfl (ao_calld (mark0_spot_c (k := 1)) Try.call20 rfl rfl) ?_
      refine al_opd rfl rfl rfl (ao_as (v := .int _ _) rfl) ?_
      refine al_nilT ?_
      refine aw_seq ?_
      refine aw_region ?_
      refine al_opd rfl rfl rfl (ao_as (v := .int _ _) rfl) ?_
      refine al_nilT ?_
      refine aw_seq ?_
      refine aw_region ?_
      refine al_opd rfl rfl rfl (ao_mv (v := .slice _ _ _) rfl) ?_
      refine al_opd rfl rfl rfl (ao_mv (v := .int _ _) rfl) ?_
      refine al_opd rfl rfl rfl (ao_calld (held_spot_c (n := 0) (k := 1) Sl.nil (by omega) (by omega)) Try.call21 rfl rfl) ?_
      refine al_opd rfl rfl rfl (ao_as (v := .int _ _) rfl) ?_
      refine al_nilT ?_
      refine aw_seq ?_
      refine aw_seq ?_
      refine aw_region ?_
      refine al_opd rfl rfl rfl (ao_mv (v := .int _ _) rfl) ?_
      refine al_opd rfl rfl rfl (ao_lss rfl rfl) ?_
      refine al_nilT ?_
      refine aw_cond rfl (fun h3_ => ?_) (fun h3_ => ?_)
      · try simp only [decide_eq_true_eq, decide_eq_false_iff_not, Bool.not_eq_true', Bool.not_eq_false', Bool.and_eq_true, Bool.or_eq_true, Bool.and_eq_false_iff, Bool.or_eq_false_iff, beq_iff_eq, bne_iff_ne, beq_eq_false_iff_ne, bne_eq_false_iff_eq, ne_eq, Decidable.not_not, Bool.decide_eq_true] at h3_
        first | done | omega | (exfalso; revert h3_; simp; (first | done | omega))
      · try simp only [decide_eq_true_eq, decide_eq_false_iff_not, Bool.not_eq_true', Bool.not_eq_false', Bool.and_eq_true, Bool.or_eq_true, Bool.and_eq_false_iff, Bool.or_eq_false_iff, beq_iff_eq, bne_iff_ne, beq_eq_false_iff_ne, bne_eq_false_iff_eq, ne_eq, Decidable.not_not, Bool.decide_eq_true] at h3_
        refine aw_skipT ?_
        refine aw_seq ?_
        refine aw_seq ?_
        refine aw_region ?_
        refine al_opd rfl rfl rfl (ao_mv (v := .int _ _) rfl) ?_
        refine al_opd rfl rfl rfl (ao_mv (v := .int _ _) rfl) ?_
        refine al_opd rfl rfl rfl (ao_neq rfl rfl) ?_
        refine al_nilT ?_
        refine aw_cond rfl (fun h4_ => ?_) (fun h4_ => ?_)
        · try simp only [decide_eq_true_eq, decide_eq_false_iff_not, Bool.not_eq_true', Bool.not_eq_false', Bool.and_eq_true, Bool.or_eq_true, Bool.and_eq_false_iff, Bool.or_eq_false_iff, beq_iff_eq, bne_iff_ne, beq_eq_false_iff_ne, bne_eq_false_iff_eq, ne_eq, Decidable.not_not, Bool.decide_eq_true] at h4_
          first | done | omega | (exfalso; revert h4_; simp; (first | done | omega))
        · try simp only [decide_eq_true_eq, decide_eq_false_iff_not, Bool.not_eq_true', Bool.not_eq_false', Bool.and_eq_true, Bool.or_eq_true, Bool.and_eq_false_iff, Bool.or_eq_false_iff, beq_iff_eq, bne_iff_ne, beq_eq_false_iff_ne, bne_eq_false_iff_eq, ne_eq, Decidable.not_not, Bool.decide_eq_true] at h4_
          refine aw_skipT ?_
          refine aw_seq ?_
          refine aw_draw (m := 12) mo (by kernel_rfl) rfl (fun _ _ _ h => h) ?_
          refine dw_opd rfl rfl rfl (ao_loada Try.isAgg26 Try.sizeOf26 rfl (by exact HLp) (by rfl) (by exact RFp)) ?_
          refine dw_opd rfl rfl rfl (ao_calld (toRoom_c (r := r)) Try.call11 rfl rfl) ?_
          refine dw_opd rfl rfl rfl (ao_loada Try.isAgg28 Try.sizeOf28 rfl (by exact HLp) (by rfl) (by exact RFp)) ?_
          refine dw_opd rfl rfl rfl (ao_calld (toSpot_c (s := a)) Try.call12 rfl rfl) ?_
          refine dw_opd rfl rfl rfl (ao_loada Try.isAgg28 Try.sizeOf28 rfl (by exact HLp) (by rfl) (by exact RFp)) ?_
          refine dw_opd rfl rfl rfl (ao_calld (toSpot_c (s := b)) Try.call12 rfl rfl) ?_
          refine dw_opd rfl rfl rfl (ao_calld (implWay0_c (r := r) (a := a) (b := b) hw hwa hwb hcc h0) Try.call32 rfl rfl) ?_
          refine dw_opd rfl rfl rfl (ao_mv (v := .tuple _) rfl) ?_
          refine dw_opd rfl rfl rfl (ao_extract (v := .slice _ _ _) rfl rfl) ?_
          refine dw_opd rfl rfl rfl (ao_extract (v := .int _ _) rfl rfl) ?_
          refine dw_opd rfl rfl rfl (ao_as (v := .slice _ _ _) rfl) ?_
          refine dw_opd rfl rfl rfl (ao_as (v := .int _ _) rfl) ?_
          refine dw_end ?_
          refine al_nilT ?_
          refine aw_seq ?_
          refine aw_seq ?_
          refine aw_region ?_
          refine al_opd rfl rfl rfl (ao_mv (v := .slice _ _ _) rfl) ?_
          refine al_opd rfl rfl rfl (ao_mv (v := .slice _ _ _) rfl) ?_
          refine al_opd rfl rfl rfl (ao_calld (eqSpotS_c (l := []) (m := []) Sl.nil Sl.zero (by simp)) Try.call19 rfl rfl) ?_
          refine al_opd rfl rfl rfl (ao_not rfl) ?_
          refine al_opd rfl rfl rfl (ao_mv (v := .bool _) rfl) ?_
          refine al_cases (d := 69) rfl (fun h5_ => ?_) (fun h5_ => ?_)
          · try simp only [decide_eq_true_eq, decide_eq_false_iff_not, Bool.not_eq_true', Bool.not_eq_false', Bool.and_eq_true, Bool.or_eq_true, Bool.and_eq_false_iff, Bool.or_eq_false_iff, beq_iff_eq, bne_iff_ne, beq_eq_false_iff_ne, bne_eq_false_iff_eq, ne_eq, Decidable.not_not, Bool.decide_eq_true] at h5_
            first | done | omega | (exfalso; revert h5_; simp; (first | done | omega))
          · try simp only [decide_eq_true_eq, decide_eq_false_iff_not, Bool.not_eq_true', Bool.not_eq_false', Bool.and_eq_true, Bool.or_eq_true, Bool.and_eq_false_iff, Bool.or_eq_false_iff, beq_iff_eq, bne_iff_ne, beq_eq_false_iff_ne, bne_eq_false_iff_eq, ne_eq, Decidable.not_not, Bool.decide_eq_true] at h5_
            refine al_gyes rfl rfl rfl rfl rfl (ao_mv (v := .int _ _) rfl) ?_
            refine al_gyes rfl rfl rfl rfl rfl (ao_mv (v := .int _ _) rfl) ?_
            refine al_gyes rfl rfl rfl rfl rfl (ao_neq rfl rfl) ?_
            refine al_opd rfl rfl rfl (ao_pickF rfl (v := .bool _) rfl) ?_
            refine al_nilT ?_
            refine aw_cond rfl (fun h6_ => ?_) (fun h6_ => ?_)
            · try simp only [decide_eq_true_eq, decide_eq_false_iff_not, Bool.not_eq_true', Bool.not_eq_false', Bool.and_eq_true, Bool.or_eq_true, Bool.and_eq_false_iff, Bool.or_eq_false_iff, beq_iff_eq, bne_iff_ne, beq_eq_false_iff_ne, bne_eq_false_iff_eq, ne_eq, Decidable.not_not, Bool.decide_eq_true] at h6_
              first | done | omega | (exfalso; revert h6_; simp; (first | done | omega))
            · try simp only [decide_eq_true_eq, decide_eq_false_iff_not, Bool.not_eq_true', Bool.not_eq_false', Bool.and_eq_true, Bool.or_eq_true, Bool.and_eq_false_iff, Bool.or_eq_false_iff, beq_iff_eq, bne_iff_ne, beq_eq_false_iff_ne, bne_eq_false_iff_eq, ne_eq, Decidable.not_not, Bool.decide_eq_true] at h6_
              refine aw_skipT ?_
              refine aw_seq ?_
              refine aw_region ?_
              refine al_opd rfl rfl rfl (ao_as (v := .int _ _) rfl) ?_
              refine al_nilT ?_
              refine aw_seq ?_
              refine aw_region ?_
              refine al_opd rfl rfl rfl (ao_mv (v := .slice _ _ _) rfl) ?_
              refine al_opd rfl rfl rfl (ao_mv (v := .int _ _) rfl) ?_
              refine al_opd rfl rfl rfl (ao_calld (held_spot_c (n := 0) (k := 1) Sl.nil (by omega) (by omega)) Try.call21 rfl rfl) ?_
              refine al_opd rfl rfl rfl (ao_as (v := .int _ _) rfl) ?_
              refine al_nilT ?_
              refine aw_seq ?_
              refine aw_seq ?_
              refine aw_region ?_
              refine al_opd rfl rfl rfl (ao_mv (v := .int _ _) rfl) ?_
              refine al_opd rfl rfl rfl (ao_lss rfl rfl) ?_
              refine al_nilT ?_
              refine aw_cond rfl (fun h7_ => ?_) (fun h7_ => ?_)
              · try simp only [decide_eq_true_eq, decide_eq_false_iff_not, Bool.not_eq_true', Bool.not_eq_false', Bool.and_eq_true, Bool.or_eq_true, Bool.and_eq_false_iff, Bool.or_eq_false_iff, beq_iff_eq, bne_iff_ne, beq_eq_false_iff_ne, bne_eq_false_iff_eq, ne_eq, Decidable.not_not, Bool.decide_eq_true] at h7_
                first | done | omega | (exfalso; revert h7_; simp; (first | done | omega))
              · try simp only [decide_eq_true_eq, decide_eq_false_iff_not, Bool.not_eq_true', Bool.not_eq_false', Bool.and_eq_true, Bool.or_eq_true, Bool.and_eq_false_iff, Bool.or_eq_false_iff, beq_iff_eq, bne_iff_ne, beq_eq_false_iff_ne, bne_eq_false_iff_eq, ne_eq, Decidable.not_not, Bool.decide_eq_true] at h7_
                refine aw_skipT ?_
                refine aw_seq ?_
                refine aw_seq ?_
                refine aw_region ?_
                refine al_opd rfl rfl rfl (ao_mv (v := .int _ _) rfl) ?_
                refine al_opd rfl rfl rfl (ao_mv (v := .int _ _) rfl) ?_
                refine al_opd rfl rfl rfl (ao_neq rfl rfl) ?_
                refine al_nilT ?_
                refine aw_cond rfl (fun h8_ => ?_) (fun h8_ => ?_)
                · try simp only [decide_eq_true_eq, decide_eq_false_iff_not, Bool.not_eq_true', Bool.not_eq_false', Bool.and_eq_true, Bool.or_eq_true, Bool.and_eq_false_iff, Bool.or_eq_false_iff, beq_iff_eq, bne_iff_ne, beq_eq_false_iff_ne, bne_eq_false_iff_eq, ne_eq, Decidable.not_not, Bool.decide_eq_true] at h8_
                  first | done | omega | (exfalso; revert h8_; simp; (first | done | omega))
                · try simp only [decide_eq_true_eq, decide_eq_false_iff_not, Bool.not_eq_true', Bool.not_eq_false', Bool.and_eq_true, Bool.or_eq_true, Bool.and_eq_false_iff, Bool.or_eq_false_iff, beq_iff_eq, bne_iff_ne, beq_eq_false_iff_ne, bne_eq_false_iff_eq, ne_eq, Decidable.not_not, Bool.decide_eq_true] at h8_
                  refine aw_skipT ?_
                  refine aw_seq ?_
                  refine aw_region ?_
                  refine al_opd rfl rfl rfl (ao_as (v := .bool _) rfl) ?_
                  refine al_nilT ?_
                  refine aw_ret ?_
                  refine ends1 rfl (rv_tmp (v := .bool _) rfl) ?_
                  exact ⟨by first | rfl | (simp [*]; (first | done | fail)), by exact SMp⟩

theorem lawWay_c {r : Room} {a b : Spot} {H : AHeap} (hw : wfRoom r) (hwa : wfSpot a) (hwb : wfSpot b) : ACd Try.prog 9 [.agg (roomC r).toArray, .agg #[.int .i8 a.x, .int .i8 a.y], .agg #[.int .i8 b.x, .int .i8 b.y]] H (.bool true) H := by
  obtain ⟨c, hcc⟩ := exists_twoC r a b
  by_cases h0 : c = 0
  · subst h0
    cases hv : mget (found r a) b with
    | none => exact lawWay6_c hw hwa hwb hcc hv
    | some v => exact lawWay1_c hw hwa hwb hcc hv
  · exact lawWay0_c hw hwa hwb hcc h0

end Go.Proofs.Ytkjmcolnoehjbaa
