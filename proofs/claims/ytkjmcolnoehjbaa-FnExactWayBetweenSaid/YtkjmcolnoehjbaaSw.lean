/- Contracts of the program's functions over abstract heaps. -/
import Derived.Test.YtkjmcolnoehjbaaBfs4
import Derived.Test.YtkjmcolnoehjbaaVr
import Derived.Test.YtkjmcolnoehjbaaFn
namespace Go.Proofs.Ytkjmcolnoehjbaa
open Go Go.AW Go.Proofs
set_option linter.unusedVariables false
set_option linter.unusedSimpArgs false
set_option maxRecDepth 100000
set_option maxHeartbeats 2000000

-- spec.l01Two
theorem l01Two_c {r : Room} {a b : Spot} {pb0 : Nat} {c : Int} {H : AHeap} (hp0 : H.blk pb0 = some (.cells (roomC r) 1)) (hw : wfRoom r) (hwa : wfSpot a) (hwb : wfSpot b) (hcc : twoC r a b c) : ACd Try.prog 33 [.pointer (some ⟨pb0, 0, none⟩), .agg #[.int .i8 a.x, .int .i8 a.y], .agg #[.int .i8 b.x, .int .i8 b.y]] H (.int .i64 c) (H) := by
  obtain ⟨k1, hk1⟩ := exists_askC r a true
  obtain ⟨k2, hk2⟩ := exists_askC r b true
  have hfa := freeB_iff r a
  have hfb := freeB_iff r b
  refine ac_gc0 (fun β => VR.plainT β (by first | rfl | simp [plainT, plainV, plain1])) (ac_body Try.func33 rfl Try.ntmps33 rfl ?_)
  refine aw_seq ?_
  refine aw_region ?_
  refine al_opd rfl rfl rfl (ao_boxa (by rfl)) ?_
  refine al_opd rfl rfl rfl (ao_boxa (by rfl)) ?_
  refine al_opd rfl rfl rfl (ao_as (v := .int _ _) rfl) ?_
  refine al_nilT ?_
  refine aw_seq ?_
  refine aw_region ?_
  refine al_opd rfl rfl rfl (ao_mv (v := .pointer _) rfl) ?_
  refine al_opd rfl rfl rfl (ao_loada Try.isAgg33 Try.sizeOf33 rfl (by exact HLp) (by rfl) (by exact RFp)) ?_
  refine al_opd rfl rfl rfl (ao_calld (l01Asked_c (r := r) (s := a) (fine := true) (c := k1) (by exact HLp) hw hwa hk1) Try.call63 rfl rfl) ?_
  refine al_opd rfl rfl rfl (ao_as (v := .int _ _) rfl) ?_
  refine al_nilT ?_
  refine aw_seq ?_
  refine aw_seq ?_
  refine aw_region ?_
  refine al_opd rfl rfl rfl (ao_mv (v := .int _ _) rfl) ?_
  refine al_opd rfl rfl rfl (ao_eql rfl rfl) ?_
  refine al_nilT ?_
  refine aw_cond rfl (fun h1_ => ?_) (fun h1_ => ?_)
  · try simp only [decide_eq_true_eq, decide_eq_false_iff_not, Bool.not_eq_true', Bool.not_eq_false', Bool.and_eq_true, Bool.or_eq_true, Bool.and_eq_false_iff, Bool.or_eq_false_iff, beq_iff_eq, bne_iff_ne, beq_eq_false_iff_ne, bne_eq_false_iff_eq, ne_eq, Decidable.not_not, Bool.decide_eq_true] at h1_
    have hok : okRoom r := by rcases hk1 with ⟨q, e⟩ | ⟨q, q2, e⟩ | ⟨q, q2, q3, e⟩ <;> first | exact q | (exfalso; omega)
    refine aw_region ?_
    refine al_opd rfl rfl rfl (ao_mv (v := .pointer _) rfl) ?_
    refine al_opd rfl rfl rfl (ao_loada Try.isAgg33 Try.sizeOf33 rfl (by exact HLp) (by rfl) (by exact RFp)) ?_
    refine al_opd rfl rfl rfl (ao_calld (l01Asked_c (r := r) (s := b) (fine := true) (c := k2) (by exact HLp) hw hwb hk2) Try.call63 rfl rfl) ?_
    refine al_opd rfl rfl rfl (ao_as (v := .int _ _) rfl) ?_
    refine al_nilT ?_
    refine aw_seq ?_
    refine aw_seq ?_
    refine aw_region ?_
    refine al_opd rfl rfl rfl (ao_mv (v := .int _ _) rfl) ?_
    refine al_opd rfl rfl rfl (ao_eql rfl rfl) ?_
    refine al_opd rfl rfl rfl (ao_mv (v := .bool _) rfl) ?_
    refine al_cases (d := 18) rfl (fun h2_ => ?_) (fun h2_ => ?_)
    · try simp only [decide_eq_true_eq, decide_eq_false_iff_not, Bool.not_eq_true', Bool.not_eq_false', Bool.and_eq_true, Bool.or_eq_true, Bool.and_eq_false_iff, Bool.or_eq_false_iff, beq_iff_eq, bne_iff_ne, beq_eq_false_iff_ne, bne_eq_false_iff_eq, ne_eq, Decidable.not_not, Bool.decide_eq_true] at h2_
      refine al_gyes rfl rfl rfl rfl rfl (ao_mv (v := .pointer _) rfl) ?_
      refine al_gyes rfl rfl rfl rfl rfl (ao_loada Try.isAgg33 Try.sizeOf33 rfl (by exact HLp) (by rfl) (by exact RFp)) ?_
      refine al_gyes rfl rfl rfl rfl rfl (ao_calld (l01Free_c (r := r) (s := a) (b := freeB r a) (by exact HLp) hok hw hwa (freeB_iff r a)) Try.call64 rfl rfl) ?_
      refine al_gyes rfl rfl rfl rfl rfl (ao_not rfl) ?_
      refine al_gyes rfl rfl rfl rfl rfl (ao_mv (v := .bool _) rfl) ?_
      refine al_cases (d := 23) rfl (fun h3_ => ?_) (fun h3_ => ?_)
      · try simp only [decide_eq_true_eq, decide_eq_false_iff_not, Bool.not_eq_true', Bool.not_eq_false', Bool.and_eq_true, Bool.or_eq_true, Bool.and_eq_false_iff, Bool.or_eq_false_iff, beq_iff_eq, bne_iff_ne, beq_eq_false_iff_ne, bne_eq_false_iff_eq, ne_eq, Decidable.not_not, Bool.decide_eq_true] at h3_
        refine al_gno rfl rfl rfl rfl rfl ?_
        refine al_gno rfl rfl rfl rfl rfl ?_
        refine al_gno rfl rfl rfl rfl rfl ?_
        refine al_gno rfl rfl rfl rfl rfl ?_
        refine al_gyes rfl rfl rfl rfl rfl (ao_pickT rfl (v := .bool _) rfl) ?_
        refine al_opd rfl rfl rfl (ao_pickT rfl (v := .bool _) rfl) ?_
        refine al_nilT ?_
        refine aw_condT (by rfl) ⟨_, rfl⟩ ?_
        refine aw_region ?_
        refine al_opd rfl rfl rfl (ao_as (v := .int _ _) rfl) ?_
        refine al_nilT ?_
        refine aw_seq ?_
        refine aw_region ?_
        refine al_opd rfl rfl rfl (ao_mv (v := .int _ _) rfl) ?_
        refine al_opd rfl rfl rfl (ao_as (v := .int _ _) rfl) ?_
        refine al_nilT ?_
        refine aw_ret ?_
        refine ends1 rfl (rv_tmp (v := .int _ _) rfl) ?_
        exact ⟨by rcases hcc with ⟨q, e⟩ | ⟨q, q2, e⟩ | ⟨q, q2, q3, q4, e⟩ | ⟨q, q2, q3, q4, q5, e⟩ <;> subst e <;> rcases hk1 with ⟨p, e⟩ | ⟨p, p2, e⟩ | ⟨p, p2, p3, e⟩ <;> subst e <;> rcases hk2 with ⟨o, e⟩ | ⟨o, o2, e⟩ | ⟨o, o2, o3, e⟩ <;> subst e <;> first | rfl | (exfalso; simp_all; (first | done | fail)), by exact SMp⟩
      · try simp only [decide_eq_true_eq, decide_eq_false_iff_not, Bool.not_eq_true', Bool.not_eq_false', Bool.and_eq_true, Bool.or_eq_true, Bool.and_eq_false_iff, Bool.or_eq_false_iff, beq_iff_eq, bne_iff_ne, beq_eq_false_iff_ne, bne_eq_false_iff_eq, ne_eq, Decidable.not_not, Bool.decide_eq_true] at h3_
        refine al_gyes rfl rfl rfl rfl rfl (ao_mv (v := .pointer _) rfl) ?_
        refine al_gyes rfl rfl rfl rfl rfl (ao_loada Try.isAgg33 Try.sizeOf33 rfl (by exact HLp) (by rfl) (by exact RFp)) ?_
        refine al_gyes rfl rfl rfl rfl rfl (ao_calld (l01Free_c (r := r) (s := b) (b := freeB r b) (by exact HLp) hok hw hwb (freeB_iff r b)) Try.call64 rfl rfl) ?_
        refine al_gyes rfl rfl rfl rfl rfl (ao_not rfl) ?_
        refine al_gyes rfl rfl rfl rfl rfl (ao_pickF rfl (v := .bool _) rfl) ?_
        refine al_opd rfl rfl rfl (ao_pickT rfl (v := .bool _) rfl) ?_
        refine al_nilT ?_
        refine aw_cond rfl (fun h4_ => ?_) (fun h4_ => ?_)
        · try simp only [decide_eq_true_eq, decide_eq_false_iff_not, Bool.not_eq_true', Bool.not_eq_false', Bool.and_eq_true, Bool.or_eq_true, Bool.and_eq_false_iff, Bool.or_eq_false_iff, beq_iff_eq, bne_iff_ne, beq_eq_false_iff_ne, bne_eq_false_iff_eq, ne_eq, Decidable.not_not, Bool.decide_eq_true] at h4_
          refine aw_region ?_
          refine al_opd rfl rfl rfl (ao_as (v := .int _ _) rfl) ?_
          refine al_nilT ?_
          refine aw_seq ?_
          refine aw_region ?_
          refine al_opd rfl rfl rfl (ao_mv (v := .int _ _) rfl) ?_
          refine al_opd rfl rfl rfl (ao_as (v := .int _ _) rfl) ?_
          refine al_nilT ?_
          refine aw_ret ?_
          refine ends1 rfl (rv_tmp (v := .int _ _) rfl) ?_
          exact ⟨by rcases hcc with ⟨q, e⟩ | ⟨q, q2, e⟩ | ⟨q, q2, q3, q4, e⟩ | ⟨q, q2, q3, q4, q5, e⟩ <;> subst e <;> rcases hk1 with ⟨p, e⟩ | ⟨p, p2, e⟩ | ⟨p, p2, p3, e⟩ <;> subst e <;> rcases hk2 with ⟨o, e⟩ | ⟨o, o2, e⟩ | ⟨o, o2, o3, e⟩ <;> subst e <;> first | rfl | (exfalso; simp_all; (first | done | fail)), by exact SMp⟩
        · try simp only [decide_eq_true_eq, decide_eq_false_iff_not, Bool.not_eq_true', Bool.not_eq_false', Bool.and_eq_true, Bool.or_eq_true, Bool.and_eq_false_iff, Bool.or_eq_false_iff, beq_iff_eq, bne_iff_ne, beq_eq_false_iff_ne, bne_eq_false_iff_eq, ne_eq, Decidable.not_not, Bool.decide_eq_true] at h4_
          refine aw_skipT ?_
          refine aw_seq ?_
          refine aw_region ?_
          refine al_opd rfl rfl rfl (ao_mv (v := .int _ _) rfl) ?_
          refine al_opd rfl rfl rfl (ao_as (v := .int _ _) rfl) ?_
          refine al_nilT ?_
          refine aw_ret ?_
          refine ends1 rfl (rv_tmp (v := .int _ _) rfl) ?_
          exact ⟨by rcases hcc with ⟨q, e⟩ | ⟨q, q2, e⟩ | ⟨q, q2, q3, q4, e⟩ | ⟨q, q2, q3, q4, q5, e⟩ <;> subst e <;> rcases hk1 with ⟨p, e⟩ | ⟨p, p2, e⟩ | ⟨p, p2, p3, e⟩ <;> subst e <;> rcases hk2 with ⟨o, e⟩ | ⟨o, o2, e⟩ | ⟨o, o2, o3, e⟩ <;> subst e <;> first | rfl | (exfalso; simp_all; (first | done | fail)), by exact SMp⟩
    · try simp only [decide_eq_true_eq, decide_eq_false_iff_not, Bool.not_eq_true', Bool.not_eq_false', Bool.and_eq_true, Bool.or_eq_true, Bool.and_eq_false_iff, Bool.or_eq_false_iff, beq_iff_eq, bne_iff_ne, beq_eq_false_iff_ne, bne_eq_false_iff_eq, ne_eq, Decidable.not_not, Bool.decide_eq_true] at h2_
      refine al_gno rfl rfl rfl rfl rfl ?_
      refine al_gno rfl rfl rfl rfl rfl ?_
      refine al_gno rfl rfl rfl rfl rfl ?_
      refine al_gno rfl rfl rfl rfl rfl ?_
      refine al_gno rfl rfl rfl rfl rfl ?_
      refine al_gnu rfl rfl rfl rfl ?_
      refine al_gnu rfl rfl rfl rfl ?_
      refine al_gnu rfl rfl rfl rfl ?_
      refine al_gnu rfl rfl rfl rfl ?_
      refine al_gno rfl rfl rfl rfl rfl ?_
      refine al_opd rfl rfl rfl (ao_pickF rfl (v := .bool _) rfl) ?_
      refine al_nilT ?_
      refine aw_condF (by rfl) ⟨_, rfl⟩ ?_
      refine aw_skipT ?_
      refine aw_seq ?_
      refine aw_region ?_
      refine al_opd rfl rfl rfl (ao_mv (v := .int _ _) rfl) ?_
      refine al_opd rfl rfl rfl (ao_as (v := .int _ _) rfl) ?_
      refine al_nilT ?_
      refine aw_ret ?_
      refine ends1 rfl (rv_tmp (v := .int _ _) rfl) ?_
      exact ⟨by rcases hcc with ⟨q, e⟩ | ⟨q, q2, e⟩ | ⟨q, q2, q3, q4, e⟩ | ⟨q, q2, q3, q4, q5, e⟩ <;> subst e <;> rcases hk1 with ⟨p, e⟩ | ⟨p, p2, e⟩ | ⟨p, p2, p3, e⟩ <;> subst e <;> rcases hk2 with ⟨o, e⟩ | ⟨o, o2, e⟩ | ⟨o, o2, o3, e⟩ <;> subst e <;> first | rfl | (exfalso; simp_all; (first | done | fail)), by exact SMp⟩
  · try simp only [decide_eq_true_eq, decide_eq_false_iff_not, Bool.not_eq_true', Bool.not_eq_false', Bool.and_eq_true, Bool.or_eq_true, Bool.and_eq_false_iff, Bool.or_eq_false_iff, beq_iff_eq, bne_iff_ne, beq_eq_false_iff_ne, bne_eq_false_iff_eq, ne_eq, Decidable.not_not, Bool.decide_eq_true] at h1_
    refine aw_skipT ?_
    refine aw_seq ?_
    refine aw_seq ?_
    refine aw_region ?_
    refine al_opd rfl rfl rfl (ao_mv (v := .int _ _) rfl) ?_
    refine al_opd rfl rfl rfl (ao_eql rfl rfl) ?_
    refine al_opd rfl rfl rfl (ao_mv (v := .bool _) rfl) ?_
    refine al_cases (d := 18) rfl (fun h5_ => ?_) (fun h5_ => ?_)
    · try simp only [decide_eq_true_eq, decide_eq_false_iff_not, Bool.not_eq_true', Bool.not_eq_false', Bool.and_eq_true, Bool.or_eq_true, Bool.and_eq_false_iff, Bool.or_eq_false_iff, beq_iff_eq, bne_iff_ne, beq_eq_false_iff_ne, bne_eq_false_iff_eq, ne_eq, Decidable.not_not, Bool.decide_eq_true] at h5_
      exact absurd h5_ h1_
    · try simp only [decide_eq_true_eq, decide_eq_false_iff_not, Bool.not_eq_true', Bool.not_eq_false', Bool.and_eq_true, Bool.or_eq_true, Bool.and_eq_false_iff, Bool.or_eq_false_iff, beq_iff_eq, bne_iff_ne, beq_eq_false_iff_ne, bne_eq_false_iff_eq, ne_eq, Decidable.not_not, Bool.decide_eq_true] at h5_
      refine al_gno rfl rfl rfl rfl rfl ?_
      refine al_gno rfl rfl rfl rfl rfl ?_
      refine al_gno rfl rfl rfl rfl rfl ?_
      refine al_gno rfl rfl rfl rfl rfl ?_
      refine al_gno rfl rfl rfl rfl rfl ?_
      refine al_gnu rfl rfl rfl rfl ?_
      refine al_gnu rfl rfl rfl rfl ?_
      refine al_gnu rfl rfl rfl rfl ?_
      refine al_gnu rfl rfl rfl rfl ?_
      refine al_gno rfl rfl rfl rfl rfl ?_
      refine al_opd rfl rfl rfl (ao_pickF rfl (v := .bool _) rfl) ?_
      refine al_nilT ?_
      refine aw_condF (by rfl) ⟨_, rfl⟩ ?_
      refine aw_skipT ?_
      refine aw_seq ?_
      refine aw_region ?_
      refine al_opd rfl rfl rfl (ao_mv (v := .int _ _) rfl) ?_
      refine al_opd rfl rfl rfl (ao_as (v := .int _ _) rfl) ?_
      refine al_nilT ?_
      refine aw_ret ?_
      refine ends1 rfl (rv_tmp (v := .int _ _) rfl) ?_
      exact ⟨by rcases hcc with ⟨q, e⟩ | ⟨q, q2, e⟩ | ⟨q, q2, q3, q4, e⟩ | ⟨q, q2, q3, q4, q5, e⟩ <;> subst e <;> rcases hk1 with ⟨p, e⟩ | ⟨p, p2, e⟩ | ⟨p, p2, p3, e⟩ <;> subst e <;> rcases hk2 with ⟨o, e⟩ | ⟨o, o2, e⟩ | ⟨o, o2, o3, e⟩ <;> subst e <;> first | rfl | (exfalso; simp_all; (first | done | fail)), by exact SMp⟩

end Go.Proofs.Ytkjmcolnoehjbaa
