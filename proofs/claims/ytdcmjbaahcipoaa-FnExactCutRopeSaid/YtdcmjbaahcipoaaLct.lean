/- Contracts of the program's functions over abstract heaps. -/
import Derived.Test.YtdcmjbaahcipoaaLaws
import Derived.Test.YtdcmjbaahcipoaaMark
import Derived.Test.YtdcmjbaahcipoaaCt
import Derived.Test.YtdcmjbaahcipoaaCi
namespace Go.Proofs.Ytdcmjbaahcipoaa
open Go Go.AW Go.Proofs
set_option linter.unusedVariables false
set_option linter.unusedSimpArgs false
set_option maxRecDepth 100000
set_option maxHeartbeats 2000000

-- laws.FnExactCutRope
set_option maxHeartbeats 60000000 in
theorem lawCut0_c {L : Int} {v : Value} {l : List Int} {k : Nat} {x : Int} {H : AHeap} (ha : Sl H i16 1 v l) (hl : l.length ≤ 9223372036854775807) (hL : -32768 ≤ L ∧ L ≤ 32767) (hv : okRope L l) (h1 : 0 < k) (h2 : k + 1 < l.length) (hx : l[k]? = some x) : ACd Try.prog 3 [.agg #[.int .i16 L, v], .int .i64 k] H (.bool true) (H) := by
  have hcl := cutB_len l k x
  have htl : (l.take (k + 1)).length = k + 1 := by simp; omega
  refine ac_gc0 (fun β => VR.plainT β (by first | rfl | simp [plainT, plainV, plain1])) (ac_body Try.func3 rfl Try.ntmps3 rfl ?_)
  refine aw_seq ?_
  refine aw_region ?_
  refine al_opd rfl rfl rfl (ao_boxa (by rfl)) ?_
  refine al_opd rfl rfl rfl (ao_as (v := .bool _) rfl) ?_
  refine al_nilT ?_
  refine aw_seq ?_
  refine aw_region ?_
  refine al_opd rfl rfl rfl (ao_as (v := .int _ _) rfl) ?_
  refine al_nilT ?_
  refine aw_seq ?_
  refine aw_region ?_
  refine al_opd rfl rfl rfl (ao_loada Try.isAgg25 Try.sizeOf25 rfl (by exact HLp) (by rfl) (by exact RFp)) ?_
  refine al_opd rfl rfl rfl (ao_mv (v := .int _ _) rfl) ?_
  refine al_opd rfl rfl rfl (ao_calld (szRope_c (L := L) (v := v) (l := l) (k := 1048576) (ha.mono (by exact SMp)) hl (by omega)) Try.call5 rfl rfl) ?_
  refine al_opd rfl rfl rfl (ao_as (v := .int _ _) rfl) ?_
  refine al_nilT ?_
  refine aw_seq ?_
  refine aw_seq ?_
  refine aw_region ?_
  refine al_opd rfl rfl rfl (ao_mv (v := .int _ _) rfl) ?_
  refine al_opd rfl rfl rfl (ao_lss rfl rfl) ?_
  refine al_nilT ?_
  refine aw_cond rfl (fun h1_ => ?_) (fun h1_ => ?_)
  · try simp only [decide_eq_true_eq, decide_eq_false_iff_not, Bool.not_eq_true', Bool.not_eq_false', Bool.and_eq_true, Bool.or_eq_true, Bool.and_eq_false_iff, Bool.or_eq_false_iff, beq_iff_eq, bne_iff_ne, beq_eq_false_iff_ne, bne_eq_false_iff_eq, ne_eq, Decidable.not_not, Bool.decide_eq_true] at h1_
    refine aw_seq ?_
    refine aw_region ?_
    refine al_opd rfl rfl rfl (ao_as (v := .bool _) rfl) ?_
    refine al_nilT ?_
    refine aw_ret ?_
    refine thenA_r ?_
    refine ends1 rfl (rv_tmp (v := .bool _) rfl) ?_
    exact ⟨by first | rfl | (simp [*]; (first | done | fail)), by exact SMp⟩
  · try simp only [decide_eq_true_eq, decide_eq_false_iff_not, Bool.not_eq_true', Bool.not_eq_false', Bool.and_eq_true, Bool.or_eq_true, Bool.and_eq_false_iff, Bool.or_eq_false_iff, beq_iff_eq, bne_iff_ne, beq_eq_false_iff_ne, bne_eq_false_iff_eq, ne_eq, Decidable.not_not, Bool.decide_eq_true] at h1_
    have hl1 : l.length ≤ 1048576 := by omega
    refine aw_skipT ?_
    refine aw_seq ?_
    refine aw_region ?_
    refine al_opd rfl rfl rfl (ao_loada Try.isAgg25 Try.sizeOf25 rfl (by exact HLp) (by rfl) (by exact RFp)) ?_
    refine al_opd rfl rfl rfl (ao_calld (toRope_c (L := L) (v := v) (l := l) (ha.mono (by exact SMp)) (by omega)) Try.call7 rfl rfl) ?_
    refine al_opd rfl rfl rfl (ao_mv (v := .int _ _) rfl) ?_
    refine al_opd rfl rfl rfl (ao_calld (specCut0_c (L := L) (ks := l) (by exact HLp) (by omega) (by omega) hL hv h1 h2 hx) Try.call6 rfl rfl) ?_
    refine al_opd rfl rfl rfl (ao_mv (v := .tuple _) rfl) ?_
    refine al_opd rfl rfl rfl (ao_extract (v := .agg _) rfl rfl) ?_
    refine al_opd rfl rfl rfl (ao_extract (v := .agg _) rfl rfl) ?_
    refine al_opd rfl rfl rfl (ao_extract (v := .int _ _) rfl rfl) ?_
    refine al_opd rfl rfl rfl (ao_alloca (zv27) (by rfl)) ?_
    refine al_opd rfl rfl rfl (ao_alloca (zv27) (by rfl)) ?_
    first | refine al_opd rfl rfl rfl ((ao_storeL Try.sizeOf27 (by rfl) (by rfl) (by exact HLp) (by exact RFp) (by exact RFp) (by exact RFp)).to (SetR.eq (by exact SRp))) ?_ | refine al_opd rfl rfl rfl ((ao_storeP (ds := [.int _ _, .slice _ _ _]) Try.sizeOf27 (by rfl) (by rfl) (by exact HLp) (by exact RFp) (by exact RFp) (by exact LTp)).to (SetR.eq (by exact SRp))) ?_
    first | refine al_opd rfl rfl rfl ((ao_storeL Try.sizeOf27 (by rfl) (by rfl) (by exact HLp) (by exact RFp) (by exact RFp) (by exact RFp)).to (SetR.eq (by exact SRp))) ?_ | refine al_opd rfl rfl rfl ((ao_storeP (ds := [.int _ _, .slice _ _ _]) Try.sizeOf27 (by rfl) (by rfl) (by exact HLp) (by exact RFp) (by exact RFp) (by exact LTp)).to (SetR.eq (by exact SRp))) ?_
    refine al_opd rfl rfl rfl (ao_as (v := .int _ _) rfl) ?_
    refine al_nilT ?_
    refine aw_seq ?_
    refine aw_region ?_
    refine al_opd rfl rfl rfl (ao_loada Try.isAgg25 Try.sizeOf25 rfl (by exact HLp) (by rfl) (by exact RFp)) ?_
    refine al_opd rfl rfl rfl (ao_calld (toRope_c (L := L) (v := v) (l := l) (ha.mono (by exact SMp)) (by omega)) Try.call7 rfl rfl) ?_
    refine al_opd rfl rfl rfl (ao_alloca (zv27) (by rfl)) ?_
    first | refine al_opd rfl rfl rfl ((ao_storeL Try.sizeOf27 (by rfl) (by rfl) (by exact HLp) (by exact RFp) (by exact RFp) (by exact RFp)).to (SetR.eq (by exact SRp))) ?_ | refine al_opd rfl rfl rfl ((ao_storeP (ds := [.int _ _, .slice _ _ _]) Try.sizeOf27 (by rfl) (by rfl) (by exact HLp) (by exact RFp) (by exact RFp) (by exact LTp)).to (SetR.eq (by exact SRp))) ?_
    refine al_nilT ?_
    refine aw_seq ?_
    refine aw_region ?_
    refine al_opd rfl rfl rfl (ao_loada Try.isAgg27 Try.sizeOf27 rfl (by exact HLp) (by rfl) (by exact RFp)) ?_
    refine al_opd rfl rfl rfl (ao_mv (v := .int _ _) rfl) ?_
    refine al_opd rfl rfl rfl (ao_calld (implCut0_c (L := L) (ks := l) (by exact HLp) (by omega) (by omega) hL hv h1 h2 hx) Try.call8 rfl rfl) ?_
    refine al_opd rfl rfl rfl (ao_mv (v := .tuple _) rfl) ?_
    refine al_opd rfl rfl rfl (ao_extract (v := .agg _) rfl rfl) ?_
    refine al_opd rfl rfl rfl (ao_extract (v := .agg _) rfl rfl) ?_
    refine al_opd rfl rfl rfl (ao_extract (v := .int _ _) rfl rfl) ?_
    refine al_opd rfl rfl rfl (ao_alloca (zv27) (by rfl)) ?_
    refine al_opd rfl rfl rfl (ao_alloca (zv27) (by rfl)) ?_
    first | refine al_opd rfl rfl rfl ((ao_storeL Try.sizeOf27 (by rfl) (by rfl) (by exact HLp) (by exact RFp) (by exact RFp) (by exact RFp)).to (SetR.eq (by exact SRp))) ?_ | refine al_opd rfl rfl rfl ((ao_storeP (ds := [.int _ _, .slice _ _ _]) Try.sizeOf27 (by rfl) (by rfl) (by exact HLp) (by exact RFp) (by exact RFp) (by exact LTp)).to (SetR.eq (by exact SRp))) ?_
    first | refine al_opd rfl rfl rfl ((ao_storeL Try.sizeOf27 (by rfl) (by rfl) (by exact HLp) (by exact RFp) (by exact RFp) (by exact RFp)).to (SetR.eq (by exact SRp))) ?_ | refine al_opd rfl rfl rfl ((ao_storeP (ds := [.int _ _, .slice _ _ _]) Try.sizeOf27 (by rfl) (by rfl) (by exact HLp) (by exact RFp) (by exact RFp) (by exact LTp)).to (SetR.eq (by exact SRp))) ?_
    refine al_opd rfl rfl rfl (ao_as (v := .int _ _) rfl) ?_
    refine al_nilT ?_
    refine aw_seq ?_
    refine aw_seq ?_
    refine aw_region ?_
    refine al_opd rfl rfl rfl (ao_loada Try.isAgg27 Try.sizeOf27 rfl (by exact HLp) (by rfl) (by exact RFp)) ?_
    refine al_opd rfl rfl rfl (ao_loada Try.isAgg27 Try.sizeOf27 rfl (by exact HLp) (by rfl) (by exact RFp)) ?_
    refine al_opd rfl rfl rfl (ao_calld (eqRope_c (L := x) (M := x) (l := (l.take (k + 1))) (m := (l.take (k + 1))) (Sl.full i16_len (by exact HLp) rfl rfl rfl) (Sl.full i16_len (by exact HLp) rfl rfl rfl) (by omega)) Try.call9 rfl rfl) ?_
    refine al_opd rfl rfl rfl (ao_not rfl) ?_
    refine al_opd rfl rfl rfl (ao_mv (v := .bool _) rfl) ?_
    refine al_cases (d := 45) rfl (fun h2_ => ?_) (fun h2_ => ?_)
    · try simp only [decide_eq_true_eq, decide_eq_false_iff_not, Bool.not_eq_true', Bool.not_eq_false', Bool.and_eq_true, Bool.or_eq_true, Bool.and_eq_false_iff, Bool.or_eq_false_iff, beq_iff_eq, bne_iff_ne, beq_eq_false_iff_ne, bne_eq_false_iff_eq, ne_eq, Decidable.not_not, Bool.decide_eq_true] at h2_
      first | done | omega | (exfalso; revert h2_; simp; (first | done | omega))
    · try simp only [decide_eq_true_eq, decide_eq_false_iff_not, Bool.not_eq_true', Bool.not_eq_false', Bool.and_eq_true, Bool.or_eq_true, Bool.and_eq_false_iff, Bool.or_eq_false_iff, beq_iff_eq, bne_iff_ne, beq_eq_false_iff_ne, bne_eq_false_iff_eq, ne_eq, Decidable.not_not, Bool.decide_eq_true] at h2_
      refine al_gyes rfl rfl rfl rfl rfl (ao_loada Try.isAgg27 Try.sizeOf27 rfl (by exact HLp) (by rfl) (by exact RFp)) ?_
      refine al_gyes rfl rfl rfl rfl rfl (ao_loada Try.isAgg27 Try.sizeOf27 rfl (by exact HLp) (by rfl) (by exact RFp)) ?_
      refine al_gyes rfl rfl rfl rfl rfl (ao_calld (eqRope_c (L := (L - x)) (M := (L - x)) (l := (cutB l k x)) (m := (cutB l k x)) (Sl.full i16_len (by exact HLp) rfl rfl rfl) (Sl.full i16_len (by exact HLp) rfl rfl rfl) (by omega)) Try.call9 rfl rfl) ?_
      refine al_gyes rfl rfl rfl rfl rfl (ao_not rfl) ?_
      refine al_opd rfl rfl rfl (ao_pickF rfl (v := .bool _) rfl) ?_
      refine al_opd rfl rfl rfl (ao_mv (v := .bool _) rfl) ?_
      refine al_cases (d := 51) rfl (fun h3_ => ?_) (fun h3_ => ?_)
      · try simp only [decide_eq_true_eq, decide_eq_false_iff_not, Bool.not_eq_true', Bool.not_eq_false', Bool.and_eq_true, Bool.or_eq_true, Bool.and_eq_false_iff, Bool.or_eq_false_iff, beq_iff_eq, bne_iff_ne, beq_eq_false_iff_ne, bne_eq_false_iff_eq, ne_eq, Decidable.not_not, Bool.decide_eq_true] at h3_
        first | done | omega | (exfalso; revert h3_; simp; (first | done | omega))
      · try simp only [decide_eq_true_eq, decide_eq_false_iff_not, Bool.not_eq_true', Bool.not_eq_false', Bool.and_eq_true, Bool.or_eq_true, Bool.and_eq_false_iff, Bool.or_eq_false_iff, beq_iff_eq, bne_iff_ne, beq_eq_false_iff_ne, bne_eq_false_iff_eq, ne_eq, Decidable.not_not, Bool.decide_eq_true] at h3_
        refine al_gyes rfl rfl rfl rfl rfl (ao_mv (v := .int _ _) rfl) ?_
        refine al_gyes rfl rfl rfl rfl rfl (ao_mv (v := .int _ _) rfl) ?_
        refine al_gyes rfl rfl rfl rfl rfl (ao_neq rfl rfl) ?_
        refine al_opd rfl rfl rfl (ao_pickF rfl (v := .bool _) rfl) ?_
        refine al_nilT ?_
        refine aw_cond rfl (fun h4_ => ?_) (fun h4_ => ?_)
        · try simp only [decide_eq_true_eq, decide_eq_false_iff_not, Bool.not_eq_true', Bool.not_eq_false', Bool.and_eq_true, Bool.or_eq_true, Bool.and_eq_false_iff, Bool.or_eq_false_iff, beq_iff_eq, bne_iff_ne, beq_eq_false_iff_ne, bne_eq_false_iff_eq, ne_eq, Decidable.not_not, Bool.decide_eq_true] at h4_
          first | done | omega | (exfalso; revert h4_; simp; (first | done | omega))
        · try simp only [decide_eq_true_eq, decide_eq_false_iff_not, Bool.not_eq_true', Bool.not_eq_false', Bool.and_eq_true, Bool.or_eq_true, Bool.and_eq_false_iff, Bool.or_eq_false_iff, beq_iff_eq, bne_iff_ne, beq_eq_false_iff_ne, bne_eq_false_iff_eq, ne_eq, Decidable.not_not, Bool.decide_eq_true] at h4_
          refine aw_skipT ?_
          refine aw_seq ?_
          refine aw_seq ?_
          refine aw_draw (m := 5) mo (by kernel_rfl) rfl (fun _ _ _ h => h) ?_
          refine dw_opd rfl rfl rfl (ao_loada Try.isAgg27 Try.sizeOf27 rfl (by exact HLp) (by rfl) (by exact RFp)) ?_
          refine dw_opd rfl rfl rfl (ao_loada Try.isAgg25 Try.sizeOf25 rfl (by exact HLp) (by rfl) (by exact RFp)) ?_
          refine dw_opn rfl rfl rfl (ao_calld (toRope_c (L := L) (v := v) (l := l) (ha.mono (by exact SMp)) (by omega)) Try.call7 rfl rfl) ?_
          refine dw_opd rfl rfl rfl (ao_calld (eqRope_c (L := L) (M := L) (l := l) (m := l) (Sl.full i16_len (by exact HLp) rfl rfl rfl) (Sl.full i16_len (by exact HLp) rfl rfl rfl) (by omega)) Try.call9 rfl rfl) ?_
          refine dw_opd rfl rfl rfl (ao_not rfl) ?_
          refine dw_end ?_
          refine al_nilT ?_
          refine aw_cond rfl (fun h5_ => ?_) (fun h5_ => ?_)
          · try simp only [decide_eq_true_eq, decide_eq_false_iff_not, Bool.not_eq_true', Bool.not_eq_false', Bool.and_eq_true, Bool.or_eq_true, Bool.and_eq_false_iff, Bool.or_eq_false_iff, beq_iff_eq, bne_iff_ne, beq_eq_false_iff_ne, bne_eq_false_iff_eq, ne_eq, Decidable.not_not, Bool.decide_eq_true] at h5_
            first | done | omega | (exfalso; revert h5_; simp; (first | done | omega))
          · try simp only [decide_eq_true_eq, decide_eq_false_iff_not, Bool.not_eq_true', Bool.not_eq_false', Bool.and_eq_true, Bool.or_eq_true, Bool.and_eq_false_iff, Bool.or_eq_false_iff, beq_iff_eq, bne_iff_ne, beq_eq_false_iff_ne, bne_eq_false_iff_eq, ne_eq, Decidable.not_not, Bool.decide_eq_true] at h5_
            refine aw_skipT ?_
            refine aw_seq ?_
            refine aw_region ?_
            refine al_opd rfl rfl rfl (ao_as (v := .int _ _) rfl) ?_
            refine al_nilT ?_
            refine aw_seq ?_
            refine aw_region ?_
            refine al_opd rfl rfl rfl (ao_loada Try.isAgg27 Try.sizeOf27 rfl (by exact HLp) (by rfl) (by exact RFp)) ?_
            refine al_opd rfl rfl rfl (ao_mv (v := .int _ _) rfl) ?_
            refine al_opd rfl rfl rfl ((ao_calld (markRope_c (L := L) (l := l) (k := 1) (by exact HLp) (by omega) (by omega)) Try.call10 rfl rfl).to (SetR.eq (by exact SRp))) ?_
            refine al_opd rfl rfl rfl (ao_as (v := .int _ _) rfl) ?_
            refine al_nilT ?_
            refine aw_seq ?_
            refine aw_seq ?_
            refine aw_region ?_
            refine al_opd rfl rfl rfl (ao_mv (v := .int _ _) rfl) ?_
            refine al_opd rfl rfl rfl (ao_lss rfl rfl) ?_
            refine al_opd rfl rfl rfl (ao_mv (v := .bool _) rfl) ?_
            refine al_cases (d := 66) rfl (fun h6_ => ?_) (fun h6_ => ?_)
            · try simp only [decide_eq_true_eq, decide_eq_false_iff_not, Bool.not_eq_true', Bool.not_eq_false', Bool.and_eq_true, Bool.or_eq_true, Bool.and_eq_false_iff, Bool.or_eq_false_iff, beq_iff_eq, bne_iff_ne, beq_eq_false_iff_ne, bne_eq_false_iff_eq, ne_eq, Decidable.not_not, Bool.decide_eq_true] at h6_
              first | done | omega | (exfalso; revert h6_; simp; (first | done | omega))
            · try simp only [decide_eq_true_eq, decide_eq_false_iff_not, Bool.not_eq_true', Bool.not_eq_false', Bool.and_eq_true, Bool.or_eq_true, Bool.and_eq_false_iff, Bool.or_eq_false_iff, beq_iff_eq, bne_iff_ne, beq_eq_false_iff_ne, bne_eq_false_iff_eq, ne_eq, Decidable.not_not, Bool.decide_eq_true] at h6_
              refine al_gyes rfl rfl rfl rfl rfl (ao_loada Try.isAgg27 Try.sizeOf27 rfl (by exact HLp) (by rfl) (by exact RFp)) ?_
              refine al_gyes rfl rfl rfl rfl rfl (ao_loada Try.isAgg27 Try.sizeOf27 rfl (by exact HLp) (by rfl) (by exact RFp)) ?_
              refine al_gyes rfl rfl rfl rfl rfl (ao_calld (eqRope_c (L := x) (M := x) (l := (l.take (k + 1))) (m := (l.take (k + 1))) (Sl.full i16_len (by exact HLp) rfl rfl rfl) (Sl.full i16_len (by exact HLp) rfl rfl rfl) (by omega)) Try.call9 rfl rfl) ?_
              refine al_gyes rfl rfl rfl rfl rfl (ao_not rfl) ?_
              refine al_opd rfl rfl rfl (ao_pickF rfl (v := .bool _) rfl) ?_
              refine al_opd rfl rfl rfl (ao_mv (v := .bool _) rfl) ?_
              refine al_cases (d := 72) rfl (fun h7_ => ?_) (fun h7_ => ?_)
              · try simp only [decide_eq_true_eq, decide_eq_false_iff_not, Bool.not_eq_true', Bool.not_eq_false', Bool.and_eq_true, Bool.or_eq_true, Bool.and_eq_false_iff, Bool.or_eq_false_iff, beq_iff_eq, bne_iff_ne, beq_eq_false_iff_ne, bne_eq_false_iff_eq, ne_eq, Decidable.not_not, Bool.decide_eq_true] at h7_
                first | done | omega | (exfalso; revert h7_; simp; (first | done | omega))
              · try simp only [decide_eq_true_eq, decide_eq_false_iff_not, Bool.not_eq_true', Bool.not_eq_false', Bool.and_eq_true, Bool.or_eq_true, Bool.and_eq_false_iff, Bool.or_eq_false_iff, beq_iff_eq, bne_iff_ne, beq_eq_false_iff_ne, bne_eq_false_iff_eq, ne_eq, Decidable.not_not, Bool.decide_eq_true] at h7_
                refine al_gyes rfl rfl rfl rfl rfl (ao_loada Try.isAgg27 Try.sizeOf27 rfl (by exact HLp) (by rfl) (by exact RFp)) ?_
                refine al_gyes rfl rfl rfl rfl rfl (ao_loada Try.isAgg27 Try.sizeOf27 rfl (by exact HLp) (by rfl) (by exact RFp)) ?_
                refine al_gyes rfl rfl rfl rfl rfl (ao_calld (eqRope_c (L := (L - x)) (M := (L - x)) (l := (cutB l k x)) (m := (cutB l k x)) (Sl.full i16_len (by exact HLp) rfl rfl rfl) (Sl.full i16_len (by exact HLp) rfl rfl rfl) (by omega)) Try.call9 rfl rfl) ?_
                refine al_gyes rfl rfl rfl rfl rfl (ao_not rfl) ?_
                refine al_opd rfl rfl rfl (ao_pickF rfl (v := .bool _) rfl) ?_
                refine al_opd rfl rfl rfl (ao_mv (v := .bool _) rfl) ?_
                refine al_cases (d := 78) rfl (fun h8_ => ?_) (fun h8_ => ?_)
                · try simp only [decide_eq_true_eq, decide_eq_false_iff_not, Bool.not_eq_true', Bool.not_eq_false', Bool.and_eq_true, Bool.or_eq_true, Bool.and_eq_false_iff, Bool.or_eq_false_iff, beq_iff_eq, bne_iff_ne, beq_eq_false_iff_ne, bne_eq_false_iff_eq, ne_eq, Decidable.not_not, Bool.decide_eq_true] at h8_
                  first | done | omega | (exfalso; revert h8_; simp; (first | done | omega))
                · try simp only [decide_eq_true_eq, decide_eq_false_iff_not, Bool.not_eq_true', Bool.not_eq_false', Bool.and_eq_true, Bool.or_eq_true, Bool.and_eq_false_iff, Bool.or_eq_false_iff, beq_iff_eq, bne_iff_ne, beq_eq_false_iff_ne, bne_eq_false_iff_eq, ne_eq, Decidable.not_not, Bool.decide_eq_true] at h8_
                  refine al_gyes rfl rfl rfl rfl rfl (ao_mv (v := .int _ _) rfl) ?_
                  refine al_gyes rfl rfl rfl rfl rfl (ao_mv (v := .int _ _) rfl) ?_
                  refine al_gyes rfl rfl rfl rfl rfl (ao_neq rfl rfl) ?_
                  refine al_opd rfl rfl rfl (ao_pickF rfl (v := .bool _) rfl) ?_
                  refine al_nilT ?_
                  refine aw_cond rfl (fun h9_ => ?_) (fun h9_ => ?_)
                  · try simp only [decide_eq_true_eq, decide_eq_false_iff_not, Bool.not_eq_true', Bool.not_eq_false', Bool.and_eq_true, Bool.or_eq_true, Bool.and_eq_false_iff, Bool.or_eq_false_iff, beq_iff_eq, bne_iff_ne, beq_eq_false_iff_ne, bne_eq_false_iff_eq, ne_eq, Decidable.not_not, Bool.decide_eq_true] at h9_
                    first | done | omega | (exfalso; revert h9_; simp; (first | done | omega))
                  · try simp only [decide_eq_true_eq, decide_eq_false_iff_not, Bool.not_eq_true', Bool.not_eq_false', Bool.and_eq_true, Bool.or_eq_true, Bool.and_eq_false_iff, Bool.or_eq_false_iff, beq_iff_eq, bne_iff_ne, beq_eq_false_iff_ne, bne_eq_false_iff_eq, ne_eq, Decidable.not_not, Bool.decide_eq_true] at h9_
                    refine aw_skipT ?_
                    refine aw_seq ?_
                    refine aw_region ?_
                    refine al_opd rfl rfl rfl (ao_as (v := .int _ _) rfl) ?_
                    refine al_nilT ?_
                    refine aw_seq ?_
                    refine aw_region ?_
                    refine al_opd rfl rfl rfl (ao_loada Try.isAgg27 Try.sizeOf27 rfl (by exact HLp) (by rfl) (by exact RFp)) ?_
                    refine al_opd rfl rfl rfl (ao_mv (v := .int _ _) rfl) ?_
                    refine al_opd rfl rfl rfl ((ao_calld (markRope_c (L := x) (l := (l.take (k + 1))) (k := 1) (by exact HLp) (by omega) (by omega)) Try.call10 rfl rfl).to (SetR.eq (by exact SRp))) ?_
                    refine al_opd rfl rfl rfl (ao_as (v := .int _ _) rfl) ?_
                    refine al_nilT ?_
                    refine aw_seq ?_
                    refine aw_region ?_
                    refine al_opd rfl rfl rfl (ao_loada Try.isAgg27 Try.sizeOf27 rfl (by exact HLp) (by rfl) (by exact RFp)) ?_
                    refine al_opd rfl rfl rfl (ao_mv (v := .int _ _) rfl) ?_
                    refine al_opd rfl rfl rfl ((ao_calld (markRope_c (L := L - x) (l := (cutB l k x)) (k := 1 + ((l.take (k + 1)).length : Int)) (by exact HLp) (by omega) (by omega)) Try.call10 rfl rfl).to (SetR.eq (by exact SRp))) ?_
                    refine al_opd rfl rfl rfl (ao_as (v := .int _ _) rfl) ?_
                    refine al_nilT ?_
                    refine aw_seq ?_
                    refine aw_region ?_
                    refine al_opd rfl rfl rfl (ao_as (v := .int _ _) rfl) ?_
                    refine al_nilT ?_
                    refine aw_seq ?_
                    refine aw_region ?_
                    refine al_opd rfl rfl rfl (ao_loada Try.isAgg27 Try.sizeOf27 rfl (by exact HLp) (by rfl) (by exact RFp)) ?_
                    refine al_opd rfl rfl rfl (ao_mv (v := .int _ _) rfl) ?_
                    refine al_opd rfl rfl rfl (ao_calld (heldRope_c (L := x) (n := (l.take (k + 1)).length) (k := 1) (Sl.full i16_len (by exact HLp) rfl rfl (mk16_len _ _).symm) (by omega) (by omega)) Try.call11 rfl rfl) ?_
                    refine al_opd rfl rfl rfl (ao_as (v := .int _ _) rfl) ?_
                    refine al_nilT ?_
                    refine aw_seq ?_
                    refine aw_seq ?_
                    refine aw_region ?_
                    refine al_opd rfl rfl rfl (ao_mv (v := .int _ _) rfl) ?_
                    refine al_opd rfl rfl rfl (ao_lss rfl rfl) ?_
                    refine al_nilT ?_
                    refine aw_cond rfl (fun h10_ => ?_) (fun h10_ => ?_)
                    · try simp only [decide_eq_true_eq, decide_eq_false_iff_not, Bool.not_eq_true', Bool.not_eq_false', Bool.and_eq_true, Bool.or_eq_true, Bool.and_eq_false_iff, Bool.or_eq_false_iff, beq_iff_eq, bne_iff_ne, beq_eq_false_iff_ne, bne_eq_false_iff_eq, ne_eq, Decidable.not_not, Bool.decide_eq_true] at h10_
                      first | done | omega | (exfalso; revert h10_; simp; (first | done | omega))
                    · try simp only [decide_eq_true_eq, decide_eq_false_iff_not, Bool.not_eq_true', Bool.not_eq_false', Bool.and_eq_true, Bool.or_eq_true, Bool.and_eq_false_iff, Bool.or_eq_false_iff, beq_iff_eq, bne_iff_ne, beq_eq_false_iff_ne, bne_eq_false_iff_eq, ne_eq, Decidable.not_not, Bool.decide_eq_true] at h10_
                      refine aw_skipT ?_
                      refine aw_seq ?_
                      refine aw_region ?_
                      refine al_opd rfl rfl rfl (ao_loada Try.isAgg27 Try.sizeOf27 rfl (by exact HLp) (by rfl) (by exact RFp)) ?_
                      refine al_opd rfl rfl rfl (ao_mv (v := .int _ _) rfl) ?_
                      refine al_opd rfl rfl rfl (ao_calld (heldRope_c (L := (L - x)) (n := (cutB l k x).length) (k := (1 + ((l.take (k + 1)).length : Int))) (Sl.full i16_len (by exact HLp) rfl rfl (mk16_len _ _).symm) (by omega) (by omega)) Try.call11 rfl rfl) ?_
                      refine al_opd rfl rfl rfl (ao_as (v := .int _ _) rfl) ?_
                      refine al_nilT ?_
                      refine aw_seq ?_
                      refine aw_seq ?_
                      refine aw_region ?_
                      refine al_opd rfl rfl rfl (ao_mv (v := .int _ _) rfl) ?_
                      refine al_opd rfl rfl rfl (ao_lss rfl rfl) ?_
                      refine al_nilT ?_
                      refine aw_cond rfl (fun h11_ => ?_) (fun h11_ => ?_)
                      · try simp only [decide_eq_true_eq, decide_eq_false_iff_not, Bool.not_eq_true', Bool.not_eq_false', Bool.and_eq_true, Bool.or_eq_true, Bool.and_eq_false_iff, Bool.or_eq_false_iff, beq_iff_eq, bne_iff_ne, beq_eq_false_iff_ne, bne_eq_false_iff_eq, ne_eq, Decidable.not_not, Bool.decide_eq_true] at h11_
                        first | done | omega | (exfalso; revert h11_; simp; (first | done | omega))
                      · try simp only [decide_eq_true_eq, decide_eq_false_iff_not, Bool.not_eq_true', Bool.not_eq_false', Bool.and_eq_true, Bool.or_eq_true, Bool.and_eq_false_iff, Bool.or_eq_false_iff, beq_iff_eq, bne_iff_ne, beq_eq_false_iff_ne, bne_eq_false_iff_eq, ne_eq, Decidable.not_not, Bool.decide_eq_true] at h11_
                        refine aw_skipT ?_
                        refine aw_seq ?_
                        refine aw_seq ?_
                        refine aw_region ?_
                        refine al_opd rfl rfl rfl (ao_mv (v := .int _ _) rfl) ?_
                        refine al_opd rfl rfl rfl (ao_mv (v := .int _ _) rfl) ?_
                        refine al_opd rfl rfl rfl (ao_neq rfl rfl) ?_
                        refine al_nilT ?_
                        refine aw_cond rfl (fun h12_ => ?_) (fun h12_ => ?_)
                        · try simp only [decide_eq_true_eq, decide_eq_false_iff_not, Bool.not_eq_true', Bool.not_eq_false', Bool.and_eq_true, Bool.or_eq_true, Bool.and_eq_false_iff, Bool.or_eq_false_iff, beq_iff_eq, bne_iff_ne, beq_eq_false_iff_ne, bne_eq_false_iff_eq, ne_eq, Decidable.not_not, Bool.decide_eq_true] at h12_
                          first | done | omega | (exfalso; revert h12_; simp; (first | done | omega))
                        · try simp only [decide_eq_true_eq, decide_eq_false_iff_not, Bool.not_eq_true', Bool.not_eq_false', Bool.and_eq_true, Bool.or_eq_true, Bool.and_eq_false_iff, Bool.or_eq_false_iff, beq_iff_eq, bne_iff_ne, beq_eq_false_iff_ne, bne_eq_false_iff_eq, ne_eq, Decidable.not_not, Bool.decide_eq_true] at h12_
                          refine aw_skipT ?_
                          refine aw_seq ?_
                          refine aw_region ?_
                          refine al_opd rfl rfl rfl (ao_loada Try.isAgg25 Try.sizeOf25 rfl (by exact HLp) (by rfl) (by exact RFp)) ?_
                          refine al_opd rfl rfl rfl (ao_calld (toRope_c (L := L) (v := v) (l := l) (ha.mono (by exact SMp)) (by omega)) Try.call7 rfl rfl) ?_
                          refine al_opd rfl rfl rfl (ao_mv (v := .int _ _) rfl) ?_
                          refine al_opd rfl rfl rfl (ao_calld (implCut0_c (L := L) (ks := l) (by exact HLp) (by omega) (by omega) hL hv h1 h2 hx) Try.call8 rfl rfl) ?_
                          refine al_opd rfl rfl rfl (ao_mv (v := .tuple _) rfl) ?_
                          refine al_opd rfl rfl rfl (ao_extract (v := .agg _) rfl rfl) ?_
                          refine al_opd rfl rfl rfl (ao_extract (v := .agg _) rfl rfl) ?_
                          refine al_opd rfl rfl rfl (ao_extract (v := .int _ _) rfl rfl) ?_
                          refine al_opd rfl rfl rfl (ao_alloca (zv27) (by rfl)) ?_
                          refine al_opd rfl rfl rfl (ao_alloca (zv27) (by rfl)) ?_
                          first | refine al_opd rfl rfl rfl ((ao_storeL Try.sizeOf27 (by rfl) (by rfl) (by exact HLp) (by exact RFp) (by exact RFp) (by exact RFp)).to (SetR.eq (by exact SRp))) ?_ | refine al_opd rfl rfl rfl ((ao_storeP (ds := [.int _ _, .slice _ _ _]) Try.sizeOf27 (by rfl) (by rfl) (by exact HLp) (by exact RFp) (by exact RFp) (by exact LTp)).to (SetR.eq (by exact SRp))) ?_
                          first | refine al_opd rfl rfl rfl ((ao_storeL Try.sizeOf27 (by rfl) (by rfl) (by exact HLp) (by exact RFp) (by exact RFp) (by exact RFp)).to (SetR.eq (by exact SRp))) ?_ | refine al_opd rfl rfl rfl ((ao_storeP (ds := [.int _ _, .slice _ _ _]) Try.sizeOf27 (by rfl) (by rfl) (by exact HLp) (by exact RFp) (by exact RFp) (by exact LTp)).to (SetR.eq (by exact SRp))) ?_
                          refine al_opd rfl rfl rfl (ao_as (v := .int _ _) rfl) ?_
                          refine al_nilT ?_
                          refine aw_seq ?_
                          refine aw_seq ?_
                          refine aw_region ?_
                          refine al_opd rfl rfl rfl (ao_loada Try.isAgg27 Try.sizeOf27 rfl (by exact HLp) (by rfl) (by exact RFp)) ?_
                          refine al_opd rfl rfl rfl (ao_loada Try.isAgg27 Try.sizeOf27 rfl (by exact HLp) (by rfl) (by exact RFp)) ?_
                          refine al_opd rfl rfl rfl (ao_calld (eqRope_c (L := x) (M := x) (l := (l.take (k + 1))) (m := (l.take (k + 1))) (Sl.full i16_len (by exact HLp) rfl rfl rfl) (Sl.full i16_len (by exact HLp) rfl rfl rfl) (by omega)) Try.call9 rfl rfl) ?_
                          refine al_opd rfl rfl rfl (ao_not rfl) ?_
                          refine al_opd rfl rfl rfl (ao_mv (v := .bool _) rfl) ?_
                          refine al_cases (d := 114) rfl (fun h13_ => ?_) (fun h13_ => ?_)
                          · try simp only [decide_eq_true_eq, decide_eq_false_iff_not, Bool.not_eq_true', Bool.not_eq_false', Bool.and_eq_true, Bool.or_eq_true, Bool.and_eq_false_iff, Bool.or_eq_false_iff, beq_iff_eq, bne_iff_ne, beq_eq_false_iff_ne, bne_eq_false_iff_eq, ne_eq, Decidable.not_not, Bool.decide_eq_true] at h13_
                            first | done | omega | (exfalso; revert h13_; simp; (first | done | omega))
                          · try simp only [decide_eq_true_eq, decide_eq_false_iff_not, Bool.not_eq_true', Bool.not_eq_false', Bool.and_eq_true, Bool.or_eq_true, Bool.and_eq_false_iff, Bool.or_eq_false_iff, beq_iff_eq, bne_iff_ne, beq_eq_false_iff_ne, bne_eq_false_iff_eq, ne_eq, Decidable.not_not, Bool.decide_eq_true] at h13_
                            refine al_gyes rfl rfl rfl rfl rfl (ao_loada Try.isAgg27 Try.sizeOf27 rfl (by exact HLp) (by rfl) (by exact RFp)) ?_
                            refine al_gyes rfl rfl rfl rfl rfl (ao_loada Try.isAgg27 Try.sizeOf27 rfl (by exact HLp) (by rfl) (by exact RFp)) ?_
                            refine al_gyes rfl rfl rfl rfl rfl (ao_calld (eqRope_c (L := (L - x)) (M := (L - x)) (l := (cutB l k x)) (m := (cutB l k x)) (Sl.full i16_len (by exact HLp) rfl rfl rfl) (Sl.full i16_len (by exact HLp) rfl rfl rfl) (by omega)) Try.call9 rfl rfl) ?_
                            refine al_gyes rfl rfl rfl rfl rfl (ao_not rfl) ?_
                            refine al_opd rfl rfl rfl (ao_pickF rfl (v := .bool _) rfl) ?_
                            refine al_opd rfl rfl rfl (ao_mv (v := .bool _) rfl) ?_
                            refine al_cases (d := 120) rfl (fun h14_ => ?_) (fun h14_ => ?_)
                            · try simp only [decide_eq_true_eq, decide_eq_false_iff_not, Bool.not_eq_true', Bool.not_eq_false', Bool.and_eq_true, Bool.or_eq_true, Bool.and_eq_false_iff, Bool.or_eq_false_iff, beq_iff_eq, bne_iff_ne, beq_eq_false_iff_ne, bne_eq_false_iff_eq, ne_eq, Decidable.not_not, Bool.decide_eq_true] at h14_
                              first | done | omega | (exfalso; revert h14_; simp; (first | done | omega))
                            · try simp only [decide_eq_true_eq, decide_eq_false_iff_not, Bool.not_eq_true', Bool.not_eq_false', Bool.and_eq_true, Bool.or_eq_true, Bool.and_eq_false_iff, Bool.or_eq_false_iff, beq_iff_eq, bne_iff_ne, beq_eq_false_iff_ne, bne_eq_false_iff_eq, ne_eq, Decidable.not_not, Bool.decide_eq_true] at h14_
                              refine al_gyes rfl rfl rfl rfl rfl (ao_mv (v := .int _ _) rfl) ?_
                              refine al_gyes rfl rfl rfl rfl rfl (ao_mv (v := .int _ _) rfl) ?_
                              refine al_gyes rfl rfl rfl rfl rfl (ao_neq rfl rfl) ?_
                              refine al_opd rfl rfl rfl (ao_pickF rfl (v := .bool _) rfl) ?_
                              refine al_nilT ?_
                              refine aw_cond rfl (fun h15_ => ?_) (fun h15_ => ?_)
                              · try simp only [decide_eq_true_eq, decide_eq_false_iff_not, Bool.not_eq_true', Bool.not_eq_false', Bool.and_eq_true, Bool.or_eq_true, Bool.and_eq_false_iff, Bool.or_eq_false_iff, beq_iff_eq, bne_iff_ne, beq_eq_false_iff_ne, bne_eq_false_iff_eq, ne_eq, Decidable.not_not, Bool.decide_eq_true] at h15_
                                first | done | omega | (exfalso; revert h15_; simp; (first | done | omega))
                              · try simp only [decide_eq_true_eq, decide_eq_false_iff_not, Bool.not_eq_true', Bool.not_eq_false', Bool.and_eq_true, Bool.or_eq_true, Bool.and_eq_false_iff, Bool.or_eq_false_iff, beq_iff_eq, bne_iff_ne, beq_eq_false_iff_ne, bne_eq_false_iff_eq, ne_eq, Decidable.not_not, Bool.decide_eq_true] at h15_
                                refine aw_skipT ?_
                                refine aw_seq ?_
                                refine aw_region ?_
                                refine al_opd rfl rfl rfl (ao_as (v := .int _ _) rfl) ?_
                                refine al_nilT ?_
                                refine aw_seq ?_
                                refine aw_region ?_
                                refine al_opd rfl rfl rfl (ao_loada Try.isAgg27 Try.sizeOf27 rfl (by exact HLp) (by rfl) (by exact RFp)) ?_
                                refine al_opd rfl rfl rfl (ao_mv (v := .int _ _) rfl) ?_
                                refine al_opd rfl rfl rfl (ao_calld (heldRope_c (L := x) (n := (l.take (k + 1)).length) (k := 1) (Sl.full i16_len (by exact HLp) rfl rfl (mk16_len _ _).symm) (by omega) (by omega)) Try.call11 rfl rfl) ?_
                                refine al_opd rfl rfl rfl (ao_as (v := .int _ _) rfl) ?_
                                refine al_nilT ?_
                                refine aw_seq ?_
                                refine aw_seq ?_
                                refine aw_region ?_
                                refine al_opd rfl rfl rfl (ao_mv (v := .int _ _) rfl) ?_
                                refine al_opd rfl rfl rfl (ao_lss rfl rfl) ?_
                                refine al_nilT ?_
                                refine aw_cond rfl (fun h16_ => ?_) (fun h16_ => ?_)
                                · try simp only [decide_eq_true_eq, decide_eq_false_iff_not, Bool.not_eq_true', Bool.not_eq_false', Bool.and_eq_true, Bool.or_eq_true, Bool.and_eq_false_iff, Bool.or_eq_false_iff, beq_iff_eq, bne_iff_ne, beq_eq_false_iff_ne, bne_eq_false_iff_eq, ne_eq, Decidable.not_not, Bool.decide_eq_true] at h16_
                                  first | done | omega | (exfalso; revert h16_; simp; (first | done | omega))
                                · try simp only [decide_eq_true_eq, decide_eq_false_iff_not, Bool.not_eq_true', Bool.not_eq_false', Bool.and_eq_true, Bool.or_eq_true, Bool.and_eq_false_iff, Bool.or_eq_false_iff, beq_iff_eq, bne_iff_ne, beq_eq_false_iff_ne, bne_eq_false_iff_eq, ne_eq, Decidable.not_not, Bool.decide_eq_true] at h16_
                                  refine aw_skipT ?_
                                  refine aw_seq ?_
                                  refine aw_region ?_
                                  refine al_opd rfl rfl rfl (ao_loada Try.isAgg27 Try.sizeOf27 rfl (by exact HLp) (by rfl) (by exact RFp)) ?_
                                  refine al_opd rfl rfl rfl (ao_mv (v := .int _ _) rfl) ?_
                                  refine al_opd rfl rfl rfl (ao_calld (heldRope_c (L := (L - x)) (n := (cutB l k x).length) (k := (1 + ((l.take (k + 1)).length : Int))) (Sl.full i16_len (by exact HLp) rfl rfl (mk16_len _ _).symm) (by omega) (by omega)) Try.call11 rfl rfl) ?_
                                  refine al_opd rfl rfl rfl (ao_as (v := .int _ _) rfl) ?_
                                  refine al_nilT ?_
                                  refine aw_seq ?_
                                  refine aw_seq ?_
                                  refine aw_region ?_
                                  refine al_opd rfl rfl rfl (ao_mv (v := .int _ _) rfl) ?_
                                  refine al_opd rfl rfl rfl (ao_lss rfl rfl) ?_
                                  refine al_nilT ?_
                                  refine aw_cond rfl (fun h17_ => ?_) (fun h17_ => ?_)
                                  · try simp only [decide_eq_true_eq, decide_eq_false_iff_not, Bool.not_eq_true', Bool.not_eq_false', Bool.and_eq_true, Bool.or_eq_true, Bool.and_eq_false_iff, Bool.or_eq_false_iff, beq_iff_eq, bne_iff_ne, beq_eq_false_iff_ne, bne_eq_false_iff_eq, ne_eq, Decidable.not_not, Bool.decide_eq_true] at h17_
                                    first | done | omega | (exfalso; revert h17_; simp; (first | done | omega))
                                  · try simp only [decide_eq_true_eq, decide_eq_false_iff_not, Bool.not_eq_true', Bool.not_eq_false', Bool.and_eq_true, Bool.or_eq_true, Bool.and_eq_false_iff, Bool.or_eq_false_iff, beq_iff_eq, bne_iff_ne, beq_eq_false_iff_ne, bne_eq_false_iff_eq, ne_eq, Decidable.not_not, Bool.decide_eq_true] at h17_
                                    refine aw_skipT ?_
                                    refine aw_seq ?_
                                    refine aw_seq ?_
                                    refine aw_region ?_
                                    refine al_opd rfl rfl rfl (ao_mv (v := .int _ _) rfl) ?_
                                    refine al_opd rfl rfl rfl (ao_mv (v := .int _ _) rfl) ?_
                                    refine al_opd rfl rfl rfl (ao_neq rfl rfl) ?_
                                    refine al_nilT ?_
                                    refine aw_cond rfl (fun h18_ => ?_) (fun h18_ => ?_)
                                    · try simp only [decide_eq_true_eq, decide_eq_false_iff_not, Bool.not_eq_true', Bool.not_eq_false', Bool.and_eq_true, Bool.or_eq_true, Bool.and_eq_false_iff, Bool.or_eq_false_iff, beq_iff_eq, bne_iff_ne, beq_eq_false_iff_ne, bne_eq_false_iff_eq, ne_eq, Decidable.not_not, Bool.decide_eq_true] at h18_
                                      first | done | omega | (exfalso; revert h18_; simp; (first | done | omega))
                                    · try simp only [decide_eq_true_eq, decide_eq_false_iff_not, Bool.not_eq_true', Bool.not_eq_false', Bool.and_eq_true, Bool.or_eq_true, Bool.and_eq_false_iff, Bool.or_eq_false_iff, beq_iff_eq, bne_iff_ne, beq_eq_false_iff_ne, bne_eq_false_iff_eq, ne_eq, Decidable.not_not, Bool.decide_eq_true] at h18_
                                      refine aw_skipT ?_
                                      refine aw_seq ?_
                                      refine aw_region ?_
                                      refine al_opd rfl rfl rfl (ao_as (v := .bool _) rfl) ?_
                                      refine al_nilT ?_
                                      refine aw_ret ?_
                                      refine ends1 rfl (rv_tmp (v := .bool _) rfl) ?_
                                      exact ⟨by first | rfl | (simp [*]; (first | done | fail)), by exact SMp⟩

-- laws.FnExactCutRope
theorem lawCut1_c {L m : Int} {v : Value} {l : List Int} {H : AHeap} (ha : Sl H i16 1 v l) (hl : l.length ≤ 9223372036854775807) (hL : -32768 ≤ L ∧ L ≤ 32767) (hv : ¬ okRope L l) : ACd Try.prog 3 [.agg #[.int .i16 L, v], .int .i64 m] H (.bool true) (H) := by
  refine ac_gc0 (fun β => VR.plainT β (by first | rfl | simp [plainT, plainV, plain1])) (ac_body Try.func3 rfl Try.ntmps3 rfl ?_)
  refine aw_seq ?_
  refine aw_region ?_
  refine al_opd rfl rfl rfl (ao_boxa (by rfl)) ?_
  refine al_opd rfl rfl rfl (ao_as (v := .bool _) rfl) ?_
  refine al_nilT ?_
  refine aw_seq ?_
  refine aw_region ?_
  refine al_opd rfl rfl rfl (ao_as (v := .int _ _) rfl) ?_
  refine al_nilT ?_
  refine aw_seq ?_
  refine aw_region ?_
  refine al_opd rfl rfl rfl (ao_loada Try.isAgg25 Try.sizeOf25 rfl (by exact HLp) (by rfl) (by exact RFp)) ?_
  refine al_opd rfl rfl rfl (ao_mv (v := .int _ _) rfl) ?_
  refine al_opd rfl rfl rfl (ao_calld (szRope_c (L := L) (v := v) (l := l) (k := 1048576) (ha.mono (by exact SMp)) hl (by omega)) Try.call5 rfl rfl) ?_
  refine al_opd rfl rfl rfl (ao_as (v := .int _ _) rfl) ?_
  refine al_nilT ?_
  refine aw_seq ?_
  refine aw_seq ?_
  refine aw_region ?_
  refine al_opd rfl rfl rfl (ao_mv (v := .int _ _) rfl) ?_
  refine al_opd rfl rfl rfl (ao_lss rfl rfl) ?_
  refine al_nilT ?_
  refine aw_cond rfl (fun h1_ => ?_) (fun h1_ => ?_)
  · try simp only [decide_eq_true_eq, decide_eq_false_iff_not, Bool.not_eq_true', Bool.not_eq_false', Bool.and_eq_true, Bool.or_eq_true, Bool.and_eq_false_iff, Bool.or_eq_false_iff, beq_iff_eq, bne_iff_ne, beq_eq_false_iff_ne, bne_eq_false_iff_eq, ne_eq, Decidable.not_not, Bool.decide_eq_true] at h1_
    refine aw_seq ?_
    refine aw_region ?_
    refine al_opd rfl rfl rfl (ao_as (v := .bool _) rfl) ?_
    refine al_nilT ?_
    refine aw_ret ?_
    refine thenA_r ?_
    refine ends1 rfl (rv_tmp (v := .bool _) rfl) ?_
    exact ⟨by first | rfl | (simp [*]; (first | done | fail)), by exact SMp⟩
  · try simp only [decide_eq_true_eq, decide_eq_false_iff_not, Bool.not_eq_true', Bool.not_eq_false', Bool.and_eq_true, Bool.or_eq_true, Bool.and_eq_false_iff, Bool.or_eq_false_iff, beq_iff_eq, bne_iff_ne, beq_eq_false_iff_ne, bne_eq_false_iff_eq, ne_eq, Decidable.not_not, Bool.decide_eq_true] at h1_
    have hl1 : l.length ≤ 1048576 := by omega
    refine aw_skipT ?_
    refine aw_seq ?_
    refine aw_region ?_
    refine al_opd rfl rfl rfl (ao_loada Try.isAgg25 Try.sizeOf25 rfl (by exact HLp) (by rfl) (by exact RFp)) ?_
    refine al_opd rfl rfl rfl (ao_calld (toRope_c (L := L) (v := v) (l := l) (ha.mono (by exact SMp)) (by omega)) Try.call7 rfl rfl) ?_
    refine al_opd rfl rfl rfl (ao_mv (v := .int _ _) rfl) ?_
    refine al_opd rfl rfl rfl (ao_calld (specCut1_c (L := L) (ks := l) (by exact HLp) (by omega) (by omega) hL hv) Try.call6 rfl rfl) ?_
    refine al_opd rfl rfl rfl (ao_mv (v := .tuple _) rfl) ?_
    refine al_opd rfl rfl rfl (ao_extract (v := .agg _) rfl rfl) ?_
    refine al_opd rfl rfl rfl (ao_extract (v := .agg _) rfl rfl) ?_
    refine al_opd rfl rfl rfl (ao_extract (v := .int _ _) rfl rfl) ?_
    refine al_opd rfl rfl rfl (ao_alloca (zv27) (by rfl)) ?_
    refine al_opd rfl rfl rfl (ao_alloca (zv27) (by rfl)) ?_
    first | refine al_opd rfl rfl rfl ((ao_storeL Try.sizeOf27 (by rfl) (by rfl) (by exact HLp) (by exact RFp) (by exact RFp) (by exact RFp)).to (SetR.eq (by exact SRp))) ?_ | refine al_opd rfl rfl rfl ((ao_storeP (ds := [.int _ _, .slice _ _ _]) Try.sizeOf27 (by rfl) (by rfl) (by exact HLp) (by exact RFp) (by exact RFp) (by exact LTp)).to (SetR.eq (by exact SRp))) ?_
    first | refine al_opd rfl rfl rfl ((ao_storeL Try.sizeOf27 (by rfl) (by rfl) (by exact HLp) (by exact RFp) (by exact RFp) (by exact RFp)).to (SetR.eq (by exact SRp))) ?_ | refine al_opd rfl rfl rfl ((ao_storeP (ds := [.int _ _, .slice _ _ _]) Try.sizeOf27 (by rfl) (by rfl) (by exact HLp) (by exact RFp) (by exact RFp) (by exact LTp)).to (SetR.eq (by exact SRp))) ?_
    refine al_opd rfl rfl rfl (ao_as (v := .int _ _) rfl) ?_
    refine al_nilT ?_
    refine aw_seq ?_
    refine aw_region ?_
    refine al_opd rfl rfl rfl (ao_loada Try.isAgg25 Try.sizeOf25 rfl (by exact HLp) (by rfl) (by exact RFp)) ?_
    refine al_opd rfl rfl rfl (ao_calld (toRope_c (L := L) (v := v) (l := l) (ha.mono (by exact SMp)) (by omega)) Try.call7 rfl rfl) ?_
    refine al_opd rfl rfl rfl (ao_alloca (zv27) (by rfl)) ?_
    first | refine al_opd rfl rfl rfl ((ao_storeL Try.sizeOf27 (by rfl) (by rfl) (by exact HLp) (by exact RFp) (by exact RFp) (by exact RFp)).to (SetR.eq (by exact SRp))) ?_ | refine al_opd rfl rfl rfl ((ao_storeP (ds := [.int _ _, .slice _ _ _]) Try.sizeOf27 (by rfl) (by rfl) (by exact HLp) (by exact RFp) (by exact RFp) (by exact LTp)).to (SetR.eq (by exact SRp))) ?_
    refine al_nilT ?_
    refine aw_seq ?_
    refine aw_region ?_
    refine al_opd rfl rfl rfl (ao_loada Try.isAgg27 Try.sizeOf27 rfl (by exact HLp) (by rfl) (by exact RFp)) ?_
    refine al_opd rfl rfl rfl (ao_mv (v := .int _ _) rfl) ?_
    refine al_opd rfl rfl rfl (ao_calld (implCut1_c (L := L) (ks := l) (by exact HLp) (by omega) (by omega) hL hv) Try.call8 rfl rfl) ?_
    refine al_opd rfl rfl rfl (ao_mv (v := .tuple _) rfl) ?_
    refine al_opd rfl rfl rfl (ao_extract (v := .agg _) rfl rfl) ?_
    refine al_opd rfl rfl rfl (ao_extract (v := .agg _) rfl rfl) ?_
    refine al_opd rfl rfl rfl (ao_extract (v := .int _ _) rfl rfl) ?_
    refine al_opd rfl rfl rfl (ao_alloca (zv27) (by rfl)) ?_
    refine al_opd rfl rfl rfl (ao_alloca (zv27) (by rfl)) ?_
    first | refine al_opd rfl rfl rfl ((ao_storeL Try.sizeOf27 (by rfl) (by rfl) (by exact HLp) (by exact RFp) (by exact RFp) (by exact RFp)).to (SetR.eq (by exact SRp))) ?_ | refine al_opd rfl rfl rfl ((ao_storeP (ds := [.int _ _, .slice _ _ _]) Try.sizeOf27 (by rfl) (by rfl) (by exact HLp) (by exact RFp) (by exact RFp) (by exact LTp)).to (SetR.eq (by exact SRp))) ?_
    first | refine al_opd rfl rfl rfl ((ao_storeL Try.sizeOf27 (by rfl) (by rfl) (by exact HLp) (by exact RFp) (by exact RFp) (by exact RFp)).to (SetR.eq (by exact SRp))) ?_ | refine al_opd rfl rfl rfl ((ao_storeP (ds := [.int _ _, .slice _ _ _]) Try.sizeOf27 (by rfl) (by rfl) (by exact HLp) (by exact RFp) (by exact RFp) (by exact LTp)).to (SetR.eq (by exact SRp))) ?_
    refine al_opd rfl rfl rfl (ao_as (v := .int _ _) rfl) ?_
    refine al_nilT ?_
    refine aw_seq ?_
    refine aw_seq ?_
    refine aw_region ?_
    refine al_opd rfl rfl rfl (ao_loada Try.isAgg27 Try.sizeOf27 rfl (by exact HLp) (by rfl) (by exact RFp)) ?_
    refine al_opd rfl rfl rfl (ao_loada Try.isAgg27 Try.sizeOf27 rfl (by exact HLp) (by rfl) (by exact RFp)) ?_
    refine al_opd rfl rfl rfl (ao_calld (eqRope_c (L := 0) (M := 0) (l := []) (m := []) Sl.nil Sl.nil (by simp)) Try.call9 rfl rfl) ?_
    refine al_opd rfl rfl rfl (ao_not rfl) ?_
    refine al_opd rfl rfl rfl (ao_mv (v := .bool _) rfl) ?_
    refine al_cases (d := 45) rfl (fun h2_ => ?_) (fun h2_ => ?_)
    · try simp only [decide_eq_true_eq, decide_eq_false_iff_not, Bool.not_eq_true', Bool.not_eq_false', Bool.and_eq_true, Bool.or_eq_true, Bool.and_eq_false_iff, Bool.or_eq_false_iff, beq_iff_eq, bne_iff_ne, beq_eq_false_iff_ne, bne_eq_false_iff_eq, ne_eq, Decidable.not_not, Bool.decide_eq_true] at h2_
      first | done | omega | (exfalso; revert h2_; simp; (first | done | omega))
    · try simp only [decide_eq_true_eq, decide_eq_false_iff_not, Bool.not_eq_true', Bool.not_eq_false', Bool.and_eq_true, Bool.or_eq_true, Bool.and_eq_false_iff, Bool.or_eq_false_iff, beq_iff_eq, bne_iff_ne, beq_eq_false_iff_ne, bne_eq_false_iff_eq, ne_eq, Decidable.not_not, Bool.decide_eq_true] at h2_
      refine al_gyes rfl rfl rfl rfl rfl (ao_loada Try.isAgg27 Try.sizeOf27 rfl (by exact HLp) (by rfl) (by exact RFp)) ?_
      refine al_gyes rfl rfl rfl rfl rfl (ao_loada Try.isAgg27 Try.sizeOf27 rfl (by exact HLp) (by rfl) (by exact RFp)) ?_
      refine al_gyes rfl rfl rfl rfl rfl (ao_calld (eqRope_c (L := 0) (M := 0) (l := []) (m := []) Sl.nil Sl.nil (by simp)) Try.call9 rfl rfl) ?_
      refine al_gyes rfl rfl rfl rfl rfl (ao_not rfl) ?_
      refine al_opd rfl rfl rfl (ao_pickF rfl (v := .bool _) rfl) ?_
      refine al_opd rfl rfl rfl (ao_mv (v := .bool _) rfl) ?_
      refine al_cases (d := 51) rfl (fun h3_ => ?_) (fun h3_ => ?_)
      · try simp only [decide_eq_true_eq, decide_eq_false_iff_not, Bool.not_eq_true', Bool.not_eq_false', Bool.and_eq_true, Bool.or_eq_true, Bool.and_eq_false_iff, Bool.or_eq_false_iff, beq_iff_eq, bne_iff_ne, beq_eq_false_iff_ne, bne_eq_false_iff_eq, ne_eq, Decidable.not_not, Bool.decide_eq_true] at h3_
        first | done | omega | (exfalso; revert h3_; simp; (first | done | omega))
      · try simp only [decide_eq_true_eq, decide_eq_false_iff_not, Bool.not_eq_true', Bool.not_eq_false', Bool.and_eq_true, Bool.or_eq_true, Bool.and_eq_false_iff, Bool.or_eq_false_iff, beq_iff_eq, bne_iff_ne, beq_eq_false_iff_ne, bne_eq_false_iff_eq, ne_eq, Decidable.not_not, Bool.decide_eq_true] at h3_
        refine al_gyes rfl rfl rfl rfl rfl (ao_mv (v := .int _ _) rfl) ?_
        refine al_gyes rfl rfl rfl rfl rfl (ao_mv (v := .int _ _) rfl) ?_
        refine al_gyes rfl rfl rfl rfl rfl (ao_neq rfl rfl) ?_
        refine al_opd rfl rfl rfl (ao_pickF rfl (v := .bool _) rfl) ?_
        refine al_nilT ?_
        refine aw_cond rfl (fun h4_ => ?_) (fun h4_ => ?_)
        · try simp only [decide_eq_true_eq, decide_eq_false_iff_not, Bool.not_eq_true', Bool.not_eq_false', Bool.and_eq_true, Bool.or_eq_true, Bool.and_eq_false_iff, Bool.or_eq_false_iff, beq_iff_eq, bne_iff_ne, beq_eq_false_iff_ne, bne_eq_false_iff_eq, ne_eq, Decidable.not_not, Bool.decide_eq_true] at h4_
          first | done | omega | (exfalso; revert h4_; simp; (first | done | omega))
        · try simp only [decide_eq_true_eq, decide_eq_false_iff_not, Bool.not_eq_true', Bool.not_eq_false', Bool.and_eq_true, Bool.or_eq_true, Bool.and_eq_false_iff, Bool.or_eq_false_iff, beq_iff_eq, bne_iff_ne, beq_eq_false_iff_ne, bne_eq_false_iff_eq, ne_eq, Decidable.not_not, Bool.decide_eq_true] at h4_
          refine aw_skipT ?_
          refine aw_seq ?_
          refine aw_seq ?_
          refine aw_draw (m := 5) mo (by kernel_rfl) rfl (fun _ _ _ h => h) ?_
          refine dw_opd rfl rfl rfl (ao_loada Try.isAgg27 Try.sizeOf27 rfl (by exact HLp) (by rfl) (by exact RFp)) ?_
          refine dw_opd rfl rfl rfl (ao_loada Try.isAgg25 Try.sizeOf25 rfl (by exact HLp) (by rfl) (by exact RFp)) ?_
          refine dw_opn rfl rfl rfl (ao_calld (toRope_c (L := L) (v := v) (l := l) (ha.mono (by exact SMp)) (by omega)) Try.call7 rfl rfl) ?_
          refine dw_opd rfl rfl rfl (ao_calld (eqRope_c (L := L) (M := L) (l := l) (m := l) (Sl.full i16_len (by exact HLp) rfl rfl rfl) (Sl.full i16_len (by exact HLp) rfl rfl rfl) (by omega)) Try.call9 rfl rfl) ?_
          refine dw_opd rfl rfl rfl (ao_not rfl) ?_
          refine dw_end ?_
          refine al_nilT ?_
          refine aw_cond rfl (fun h5_ => ?_) (fun h5_ => ?_)
          · try simp only [decide_eq_true_eq, decide_eq_false_iff_not, Bool.not_eq_true', Bool.not_eq_false', Bool.and_eq_true, Bool.or_eq_true, Bool.and_eq_false_iff, Bool.or_eq_false_iff, beq_iff_eq, bne_iff_ne, beq_eq_false_iff_ne, bne_eq_false_iff_eq, ne_eq, Decidable.not_not, Bool.decide_eq_true] at h5_
            first | done | omega | (exfalso; revert h5_; simp; (first | done | omega))
          · try simp only [decide_eq_true_eq, decide_eq_false_iff_not, Bool.not_eq_true', Bool.not_eq_false', Bool.and_eq_true, Bool.or_eq_true, Bool.and_eq_false_iff, Bool.or_eq_false_iff, beq_iff_eq, bne_iff_ne, beq_eq_false_iff_ne, bne_eq_false_iff_eq, ne_eq, Decidable.not_not, Bool.decide_eq_true] at h5_
            refine aw_skipT ?_
            refine aw_seq ?_
            refine aw_region ?_
            refine al_opd rfl rfl rfl (ao_as (v := .int _ _) rfl) ?_
            refine al_nilT ?_
            refine aw_seq ?_
            refine aw_region ?_
            refine al_opd rfl rfl rfl (ao_loada Try.isAgg27 Try.sizeOf27 rfl (by exact HLp) (by rfl) (by exact RFp)) ?_
            refine al_opd rfl rfl rfl (ao_mv (v := .int _ _) rfl) ?_
            refine al_opd rfl rfl rfl ((ao_calld (markRope_c (L := L) (l := l) (k := 1) (by exact HLp) (by omega) (by omega)) Try.call10 rfl rfl).to (SetR.eq (by exact SRp))) ?_
            refine al_opd rfl rfl rfl (ao_as (v := .int _ _) rfl) ?_
            refine al_nilT ?_
            refine aw_seq ?_
            refine aw_seq ?_
            refine aw_region ?_
            refine al_opd rfl rfl rfl (ao_mv (v := .int _ _) rfl) ?_
            refine al_opd rfl rfl rfl (ao_lss rfl rfl) ?_
            refine al_opd rfl rfl rfl (ao_mv (v := .bool _) rfl) ?_
            refine al_cases (d := 66) rfl (fun h6_ => ?_) (fun h6_ => ?_)
            · try simp only [decide_eq_true_eq, decide_eq_false_iff_not, Bool.not_eq_true', Bool.not_eq_false', Bool.and_eq_true, Bool.or_eq_true, Bool.and_eq_false_iff, Bool.or_eq_false_iff, beq_iff_eq, bne_iff_ne, beq_eq_false_iff_ne, bne_eq_false_iff_eq, ne_eq, Decidable.not_not, Bool.decide_eq_true] at h6_
              first | done | omega | (exfalso; revert h6_; simp; (first | done | omega))
            · try simp only [decide_eq_true_eq, decide_eq_false_iff_not, Bool.not_eq_true', Bool.not_eq_false', Bool.and_eq_true, Bool.or_eq_true, Bool.and_eq_false_iff, Bool.or_eq_false_iff, beq_iff_eq, bne_iff_ne, beq_eq_false_iff_ne, bne_eq_false_iff_eq, ne_eq, Decidable.not_not, Bool.decide_eq_true] at h6_
              refine al_gyes rfl rfl rfl rfl rfl (ao_loada Try.isAgg27 Try.sizeOf27 rfl (by exact HLp) (by rfl) (by exact RFp)) ?_
              refine al_gyes rfl rfl rfl rfl rfl (ao_loada Try.isAgg27 Try.sizeOf27 rfl (by exact HLp) (by rfl) (by exact RFp)) ?_
              refine al_gyes rfl rfl rfl rfl rfl (ao_calld (eqRope_c (L := 0) (M := 0) (l := []) (m := []) Sl.nil Sl.nil (by simp)) Try.call9 rfl rfl) ?_
              refine al_gyes rfl rfl rfl rfl rfl (ao_not rfl) ?_
              refine al_opd rfl rfl rfl (ao_pickF rfl (v := .bool _) rfl) ?_
              refine al_opd rfl rfl rfl (ao_mv (v := .bool _) rfl) ?_
              refine al_cases (d := 72) rfl (fun h7_ => ?_) (fun h7_ => ?_)
              · try simp only [decide_eq_true_eq, decide_eq_false_iff_not, Bool.not_eq_true', Bool.not_eq_false', Bool.and_eq_true, Bool.or_eq_true, Bool.and_eq_false_iff, Bool.or_eq_false_iff, beq_iff_eq, bne_iff_ne, beq_eq_false_iff_ne, bne_eq_false_iff_eq, ne_eq, Decidable.not_not, Bool.decide_eq_true] at h7_
                first | done | omega | (exfalso; revert h7_; simp; (first | done | omega))
              · try simp only [decide_eq_true_eq, decide_eq_false_iff_not, Bool.not_eq_true', Bool.not_eq_false', Bool.and_eq_true, Bool.or_eq_true, Bool.and_eq_false_iff, Bool.or_eq_false_iff, beq_iff_eq, bne_iff_ne, beq_eq_false_iff_ne, bne_eq_false_iff_eq, ne_eq, Decidable.not_not, Bool.decide_eq_true] at h7_
                refine al_gyes rfl rfl rfl rfl rfl (ao_loada Try.isAgg27 Try.sizeOf27 rfl (by exact HLp) (by rfl) (by exact RFp)) ?_
                refine al_gyes rfl rfl rfl rfl rfl (ao_loada Try.isAgg27 Try.sizeOf27 rfl (by exact HLp) (by rfl) (by exact RFp)) ?_
                refine al_gyes rfl rfl rfl rfl rfl (ao_calld (eqRope_c (L := 0) (M := 0) (l := []) (m := []) Sl.nil Sl.nil (by simp)) Try.call9 rfl rfl) ?_
                refine al_gyes rfl rfl rfl rfl rfl (ao_not rfl) ?_
                refine al_opd rfl rfl rfl (ao_pickF rfl (v := .bool _) rfl) ?_
                refine al_opd rfl rfl rfl (ao_mv (v := .bool _) rfl) ?_
                refine al_cases (d := 78) rfl (fun h8_ => ?_) (fun h8_ => ?_)
                · try simp only [decide_eq_true_eq, decide_eq_false_iff_not, Bool.not_eq_true', Bool.not_eq_false', Bool.and_eq_true, Bool.or_eq_true, Bool.and_eq_false_iff, Bool.or_eq_false_iff, beq_iff_eq, bne_iff_ne, beq_eq_false_iff_ne, bne_eq_false_iff_eq, ne_eq, Decidable.not_not, Bool.decide_eq_true] at h8_
                  first | done | omega | (exfalso; revert h8_; simp; (first | done | omega))
                · try simp only [decide_eq_true_eq, decide_eq_false_iff_not, Bool.not_eq_true', Bool.not_eq_false', Bool.and_eq_true, Bool.or_eq_true, Bool.and_eq_false_iff, Bool.or_eq_false_iff, beq_iff_eq, bne_iff_ne, beq_eq_false_iff_ne, bne_eq_false_iff_eq, ne_eq, Decidable.not_not, Bool.decide_eq_true] at h8_
                  refine al_gyes rfl rfl rfl rfl rfl (ao_mv (v := .int _ _) rfl) ?_
                  refine al_gyes rfl rfl rfl rfl rfl (ao_mv (v := .int _ _) rfl) ?_
                  refine al_gyes rfl rfl rfl rfl rfl (ao_neq rfl rfl) ?_
                  refine al_opd rfl rfl rfl (ao_pickF rfl (v := .bool _) rfl) ?_
                  refine al_nilT ?_
                  refine aw_cond rfl (fun h9_ => ?_) (fun h9_ => ?_)
                  · try simp only [decide_eq_true_eq, decide_eq_false_iff_not, Bool.not_eq_true', Bool.not_eq_false', Bool.and_eq_true, Bool.or_eq_true, Bool.and_eq_false_iff, Bool.or_eq_false_iff, beq_iff_eq, bne_iff_ne, beq_eq_false_iff_ne, bne_eq_false_iff_eq, ne_eq, Decidable.not_not, Bool.decide_eq_true] at h9_
                    first | done | omega | (exfalso; revert h9_; simp; (first | done | omega))
                  · try simp only [decide_eq_true_eq, decide_eq_false_iff_not, Bool.not_eq_true', Bool.not_eq_false', Bool.and_eq_true, Bool.or_eq_true, Bool.and_eq_false_iff, Bool.or_eq_false_iff, beq_iff_eq, bne_iff_ne, beq_eq_false_iff_ne, bne_eq_false_iff_eq, ne_eq, Decidable.not_not, Bool.decide_eq_true] at h9_
                    refine aw_skipT ?_
                    refine aw_seq ?_
                    refine aw_region ?_
                    refine al_opd rfl rfl rfl (ao_as (v := .int _ _) rfl) ?_
                    refine al_nilT ?_
                    refine aw_seq ?_
                    refine aw_region ?_
                    refine al_opd rfl rfl rfl (ao_loada Try.isAgg27 Try.sizeOf27 rfl (by exact HLp) (by rfl) (by exact RFp)) ?_
                    refine al_opd rfl rfl rfl (ao_mv (v := .int _ _) rfl) ?_
                    refine al_opd rfl rfl rfl (ao_calld (markRope0_c (L := 0) (k := 1)) Try.call10 rfl rfl) ?_
                    refine al_opd rfl rfl rfl (ao_as (v := .int _ _) rfl) ?_
                    refine al_nilT ?_
                    refine aw_seq ?_
                    refine aw_region ?_
                    refine al_opd rfl rfl rfl (ao_loada Try.isAgg27 Try.sizeOf27 rfl (by exact HLp) (by rfl) (by exact RFp)) ?_
                    refine al_opd rfl rfl rfl (ao_mv (v := .int _ _) rfl) ?_
                    refine al_opd rfl rfl rfl (ao_calld (markRope0_c (L := 0) (k := 1)) Try.call10 rfl rfl) ?_
                    refine al_opd rfl rfl rfl (ao_as (v := .int _ _) rfl) ?_
                    refine al_nilT ?_
                    refine aw_seq ?_
                    refine aw_region ?_
                    refine al_opd rfl rfl rfl (ao_as (v := .int _ _) rfl) ?_
                    refine al_nilT ?_
                    refine aw_seq ?_
                    refine aw_region ?_
                    refine al_opd rfl rfl rfl (ao_loada Try.isAgg27 Try.sizeOf27 rfl (by exact HLp) (by rfl) (by exact RFp)) ?_
                    refine al_opd rfl rfl rfl (ao_mv (v := .int _ _) rfl) ?_
                    refine al_opd rfl rfl rfl (ao_calld (heldRope_c (L := 0) (n := 0) (k := 1) Sl.nil (by omega) (by omega)) Try.call11 rfl rfl) ?_
                    refine al_opd rfl rfl rfl (ao_as (v := .int _ _) rfl) ?_
                    refine al_nilT ?_
                    refine aw_seq ?_
                    refine aw_seq ?_
                    refine aw_region ?_
                    refine al_opd rfl rfl rfl (ao_mv (v := .int _ _) rfl) ?_
                    refine al_opd rfl rfl rfl (ao_lss rfl rfl) ?_
                    refine al_nilT ?_
                    refine aw_cond rfl (fun h10_ => ?_) (fun h10_ => ?_)
                    · try simp only [decide_eq_true_eq, decide_eq_false_iff_not, Bool.not_eq_true', Bool.not_eq_false', Bool.and_eq_true, Bool.or_eq_true, Bool.and_eq_false_iff, Bool.or_eq_false_iff, beq_iff_eq, bne_iff_ne, beq_eq_false_iff_ne, bne_eq_false_iff_eq, ne_eq, Decidable.not_not, Bool.decide_eq_true] at h10_
                      first | done | omega | (exfalso; revert h10_; simp; (first | done | omega))
                    · try simp only [decide_eq_true_eq, decide_eq_false_iff_not, Bool.not_eq_true', Bool.not_eq_false', Bool.and_eq_true, Bool.or_eq_true, Bool.and_eq_false_iff, Bool.or_eq_false_iff, beq_iff_eq, bne_iff_ne, beq_eq_false_iff_ne, bne_eq_false_iff_eq, ne_eq, Decidable.not_not, Bool.decide_eq_true] at h10_
                      refine aw_skipT ?_
                      refine aw_seq ?_
                      refine aw_region ?_
                      refine al_opd rfl rfl rfl (ao_loada Try.isAgg27 Try.sizeOf27 rfl (by exact HLp) (by rfl) (by exact RFp)) ?_
                      refine al_opd rfl rfl rfl (ao_mv (v := .int _ _) rfl) ?_
                      refine al_opd rfl rfl rfl (ao_calld (heldRope_c (L := 0) (n := 0) (k := 1) Sl.nil (by omega) (by omega)) Try.call11 rfl rfl) ?_
                      refine al_opd rfl rfl rfl (ao_as (v := .int _ _) rfl) ?_
                      refine al_nilT ?_
                      refine aw_seq ?_
                      refine aw_seq ?_
                      refine aw_region ?_
                      refine al_opd rfl rfl rfl (ao_mv (v := .int _ _) rfl) ?_
                      refine al_opd rfl rfl rfl (ao_lss rfl rfl) ?_
                      refine al_nilT ?_
                      refine aw_cond rfl (fun h11_ => ?_) (fun h11_ => ?_)
                      · try simp only [decide_eq_true_eq, decide_eq_false_iff_not, Bool.not_eq_true', Bool.not_eq_false', Bool.and_eq_true, Bool.or_eq_true, Bool.and_eq_false_iff, Bool.or_eq_false_iff, beq_iff_eq, bne_iff_ne, beq_eq_false_iff_ne, bne_eq_false_iff_eq, ne_eq, Decidable.not_not, Bool.decide_eq_true] at h11_
                        first | done | omega | (exfalso; revert h11_; simp; (first | done | omega))
                      · try simp only [decide_eq_true_eq, decide_eq_false_iff_not, Bool.not_eq_true', Bool.not_eq_false', Bool.and_eq_true, Bool.or_eq_true, Bool.and_eq_false_iff, Bool.or_eq_false_iff, beq_iff_eq, bne_iff_ne, beq_eq_false_iff_ne, bne_eq_false_iff_eq, ne_eq, Decidable.not_not, Bool.decide_eq_true] at h11_
                        refine aw_skipT ?_
                        refine aw_seq ?_
                        refine aw_seq ?_
                        refine aw_region ?_
                        refine al_opd rfl rfl rfl (ao_mv (v := .int _ _) rfl) ?_
                        refine al_opd rfl rfl rfl (ao_mv (v := .int _ _) rfl) ?_
                        refine al_opd rfl rfl rfl (ao_neq rfl rfl) ?_
                        refine al_nilT ?_
                        refine aw_cond rfl (fun h12_ => ?_) (fun h12_ => ?_)
                        · try simp only [decide_eq_true_eq, decide_eq_false_iff_not, Bool.not_eq_true', Bool.not_eq_false', Bool.and_eq_true, Bool.or_eq_true, Bool.and_eq_false_iff, Bool.or_eq_false_iff, beq_iff_eq, bne_iff_ne, beq_eq_false_iff_ne, bne_eq_false_iff_eq, ne_eq, Decidable.not_not, Bool.decide_eq_true] at h12_
                          first | done | omega | (exfalso; revert h12_; simp; (first | done | omega))
                        · try simp only [decide_eq_true_eq, decide_eq_false_iff_not, Bool.not_eq_true', Bool.not_eq_false', Bool.and_eq_true, Bool.or_eq_true, Bool.and_eq_false_iff, Bool.or_eq_false_iff, beq_iff_eq, bne_iff_ne, beq_eq_false_iff_ne, bne_eq_false_iff_eq, ne_eq, Decidable.not_not, Bool.decide_eq_true] at h12_
                          refine aw_skipT ?_
                          refine aw_seq ?_
                          refine aw_region ?_
                          refine al_opd rfl rfl rfl (ao_loada Try.isAgg25 Try.sizeOf25 rfl (by exact HLp) (by rfl) (by exact RFp)) ?_
                          refine al_opd rfl rfl rfl (ao_calld (toRope_c (L := L) (v := v) (l := l) (ha.mono (by exact SMp)) (by omega)) Try.call7 rfl rfl) ?_
                          refine al_opd rfl rfl rfl (ao_mv (v := .int _ _) rfl) ?_
                          refine al_opd rfl rfl rfl (ao_calld (implCut1_c (L := L) (ks := l) (by exact HLp) (by omega) (by omega) hL hv) Try.call8 rfl rfl) ?_
                          refine al_opd rfl rfl rfl (ao_mv (v := .tuple _) rfl) ?_
                          refine al_opd rfl rfl rfl (ao_extract (v := .agg _) rfl rfl) ?_
                          refine al_opd rfl rfl rfl (ao_extract (v := .agg _) rfl rfl) ?_
                          refine al_opd rfl rfl rfl (ao_extract (v := .int _ _) rfl rfl) ?_
                          refine al_opd rfl rfl rfl (ao_alloca (zv27) (by rfl)) ?_
                          refine al_opd rfl rfl rfl (ao_alloca (zv27) (by rfl)) ?_
                          first | refine al_opd rfl rfl rfl ((ao_storeL Try.sizeOf27 (by rfl) (by rfl) (by exact HLp) (by exact RFp) (by exact RFp) (by exact RFp)).to (SetR.eq (by exact SRp))) ?_ | refine al_opd rfl rfl rfl ((ao_storeP (ds := [.int _ _, .slice _ _ _]) Try.sizeOf27 (by rfl) (by rfl) (by exact HLp) (by exact RFp) (by exact RFp) (by exact LTp)).to (SetR.eq (by exact SRp))) ?_
                          first | refine al_opd rfl rfl rfl ((ao_storeL Try.sizeOf27 (by rfl) (by rfl) (by exact HLp) (by exact RFp) (by exact RFp) (by exact RFp)).to (SetR.eq (by exact SRp))) ?_ | refine al_opd rfl rfl rfl ((ao_storeP (ds := [.int _ _, .slice _ _ _]) Try.sizeOf27 (by rfl) (by rfl) (by exact HLp) (by exact RFp) (by exact RFp) (by exact LTp)).to (SetR.eq (by exact SRp))) ?_
                          refine al_opd rfl rfl rfl (ao_as (v := .int _ _) rfl) ?_
                          refine al_nilT ?_
                          refine aw_seq ?_
                          refine aw_seq ?_
                          refine aw_region ?_
                          refine al_opd rfl rfl rfl (ao_loada Try.isAgg27 Try.sizeOf27 rfl (by exact HLp) (by rfl) (by exact RFp)) ?_
                          refine al_opd rfl rfl rfl (ao_loada Try.isAgg27 Try.sizeOf27 rfl (by exact HLp) (by rfl) (by exact RFp)) ?_
                          refine al_opd rfl rfl rfl (ao_calld (eqRope_c (L := 0) (M := 0) (l := []) (m := []) Sl.nil Sl.nil (by simp)) Try.call9 rfl rfl) ?_
                          refine al_opd rfl rfl rfl (ao_not rfl) ?_
                          refine al_opd rfl rfl rfl (ao_mv (v := .bool _) rfl) ?_
                          refine al_cases (d := 114) rfl (fun h13_ => ?_) (fun h13_ => ?_)
                          · try simp only [decide_eq_true_eq, decide_eq_false_iff_not, Bool.not_eq_true', Bool.not_eq_false', Bool.and_eq_true, Bool.or_eq_true, Bool.and_eq_false_iff, Bool.or_eq_false_iff, beq_iff_eq, bne_iff_ne, beq_eq_false_iff_ne, bne_eq_false_iff_eq, ne_eq, Decidable.not_not, Bool.decide_eq_true] at h13_
                            first | done | omega | (exfalso; revert h13_; simp; (first | done | omega))
                          · try simp only [decide_eq_true_eq, decide_eq_false_iff_not, Bool.not_eq_true', Bool.not_eq_false', Bool.and_eq_true, Bool.or_eq_true, Bool.and_eq_false_iff, Bool.or_eq_false_iff, beq_iff_eq, bne_iff_ne, beq_eq_false_iff_ne, bne_eq_false_iff_eq, ne_eq, Decidable.not_not, Bool.decide_eq_true] at h13_
                            refine al_gyes rfl rfl rfl rfl rfl (ao_loada Try.isAgg27 Try.sizeOf27 rfl (by exact HLp) (by rfl) (by exact RFp)) ?_
                            refine al_gyes rfl rfl rfl rfl rfl (ao_loada Try.isAgg27 Try.sizeOf27 rfl (by exact HLp) (by rfl) (by exact RFp)) ?_
                            refine al_gyes rfl rfl rfl rfl rfl (ao_calld (eqRope_c (L := 0) (M := 0) (l := []) (m := []) Sl.nil Sl.nil (by simp)) Try.call9 rfl rfl) ?_
                            refine al_gyes rfl rfl rfl rfl rfl (ao_not rfl) ?_
                            refine al_opd rfl rfl rfl (ao_pickF rfl (v := .bool _) rfl) ?_
                            refine al_opd rfl rfl rfl (ao_mv (v := .bool _) rfl) ?_
                            refine al_cases (d := 120) rfl (fun h14_ => ?_) (fun h14_ => ?_)
                            · try simp only [decide_eq_true_eq, decide_eq_false_iff_not, Bool.not_eq_true', Bool.not_eq_false', Bool.and_eq_true, Bool.or_eq_true, Bool.and_eq_false_iff, Bool.or_eq_false_iff, beq_iff_eq, bne_iff_ne, beq_eq_false_iff_ne, bne_eq_false_iff_eq, ne_eq, Decidable.not_not, Bool.decide_eq_true] at h14_
                              first | done | omega | (exfalso; revert h14_; simp; (first | done | omega))
                            · try simp only [decide_eq_true_eq, decide_eq_false_iff_not, Bool.not_eq_true', Bool.not_eq_false', Bool.and_eq_true, Bool.or_eq_true, Bool.and_eq_false_iff, Bool.or_eq_false_iff, beq_iff_eq, bne_iff_ne, beq_eq_false_iff_ne, bne_eq_false_iff_eq, ne_eq, Decidable.not_not, Bool.decide_eq_true] at h14_
                              refine al_gyes rfl rfl rfl rfl rfl (ao_mv (v := .int _ _) rfl) ?_
                              refine al_gyes rfl rfl rfl rfl rfl (ao_mv (v := .int _ _) rfl) ?_
                              refine al_gyes rfl rfl rfl rfl rfl (ao_neq rfl rfl) ?_
                              refine al_opd rfl rfl rfl (ao_pickF rfl (v := .bool _) rfl) ?_
                              refine al_nilT ?_
                              refine aw_cond rfl (fun h15_ => ?_) (fun h15_ => ?_)
                              · try simp only [decide_eq_true_eq, decide_eq_false_iff_not, Bool.not_eq_true', Bool.not_eq_false', Bool.and_eq_true, Bool.or_eq_true, Bool.and_eq_false_iff, Bool.or_eq_false_iff, beq_iff_eq, bne_iff_ne, beq_eq_false_iff_ne, bne_eq_false_iff_eq, ne_eq, Decidable.not_not, Bool.decide_eq_true] at h15_
                                first | done | omega | (exfalso; revert h15_; simp; (first | done | omega))
                              · try simp only [decide_eq_true_eq, decide_eq_false_iff_not, Bool.not_eq_true', Bool.not_eq_false', Bool.and_eq_true, Bool.or_eq_true, Bool.and_eq_false_iff, Bool.or_eq_false_iff, beq_iff_eq, bne_iff_ne, beq_eq_false_iff_ne, bne_eq_false_iff_eq, ne_eq, Decidable.not_not, Bool.decide_eq_true] at h15_
                                refine aw_skipT ?_
                                refine aw_seq ?_
                                refine aw_region ?_
                                refine al_opd rfl rfl rfl (ao_as (v := .int _ _) rfl) ?_
                                refine al_nilT ?_
                                refine aw_seq ?_
                                refine aw_region ?_
                                refine al_opd rfl rfl rfl (ao_loada Try.isAgg27 Try.sizeOf27 rfl (by exact HLp) (by rfl) (by exact RFp)) ?_
                                refine al_opd rfl rfl rfl (ao_mv (v := .int _ _) rfl) ?_
                                refine al_opd rfl rfl rfl (ao_calld (heldRope_c (L := 0) (n := 0) (k := 1) Sl.nil (by omega) (by omega)) Try.call11 rfl rfl) ?_
                                refine al_opd rfl rfl rfl (ao_as (v := .int _ _) rfl) ?_
                                refine al_nilT ?_
                                refine aw_seq ?_
                                refine aw_seq ?_
                                refine aw_region ?_
                                refine al_opd rfl rfl rfl (ao_mv (v := .int _ _) rfl) ?_
                                refine al_opd rfl rfl rfl (ao_lss rfl rfl) ?_
                                refine al_nilT ?_
                                refine aw_cond rfl (fun h16_ => ?_) (fun h16_ => ?_)
                                · try simp only [decide_eq_true_eq, decide_eq_false_iff_not, Bool.not_eq_true', Bool.not_eq_false', Bool.and_eq_true, Bool.or_eq_true, Bool.and_eq_false_iff, Bool.or_eq_false_iff, beq_iff_eq, bne_iff_ne, beq_eq_false_iff_ne, bne_eq_false_iff_eq, ne_eq, Decidable.not_not, Bool.decide_eq_true] at h16_
                                  first | done | omega | (exfalso; revert h16_; simp; (first | done | omega))
                                · try simp only [decide_eq_true_eq, decide_eq_false_iff_not, Bool.not_eq_true', Bool.not_eq_false', Bool.and_eq_true, Bool.or_eq_true, Bool.and_eq_false_iff, Bool.or_eq_false_iff, beq_iff_eq, bne_iff_ne, beq_eq_false_iff_ne, bne_eq_false_iff_eq, ne_eq, Decidable.not_not, Bool.decide_eq_true] at h16_
                                  refine aw_skipT ?_
                                  refine aw_seq ?_
                                  refine aw_region ?_
                                  refine al_opd rfl rfl rfl (ao_loada Try.isAgg27 Try.sizeOf27 rfl (by exact HLp) (by rfl) (by exact RFp)) ?_
                                  refine al_opd rfl rfl rfl (ao_mv (v := .int _ _) rfl) ?_
                                  refine al_opd rfl rfl rfl (ao_calld (heldRope_c (L := 0) (n := 0) (k := 1) Sl.nil (by omega) (by omega)) Try.call11 rfl rfl) ?_
                                  refine al_opd rfl rfl rfl (ao_as (v := .int _ _) rfl) ?_
                                  refine al_nilT ?_
                                  refine aw_seq ?_
                                  refine aw_seq ?_
                                  refine aw_region ?_
                                  refine al_opd rfl rfl rfl (ao_mv (v := .int _ _) rfl) ?_
                                  refine al_opd rfl rfl rfl (ao_lss rfl rfl) ?_
                                  refine al_nilT ?_
                                  refine aw_cond rfl (fun h17_ => ?_) (fun h17_ => ?_)
                                  · try simp only [decide_eq_true_eq, decide_eq_false_iff_not, Bool.not_eq_true', Bool.not_eq_false', Bool.and_eq_true, Bool.or_eq_true, Bool.and_eq_false_iff, Bool.or_eq_false_iff, beq_iff_eq, bne_iff_ne, beq_eq_false_iff_ne, bne_eq_false_iff_eq, ne_eq, Decidable.not_not, Bool.decide_eq_true] at h17_
                                    first | done | omega | (exfalso; revert h17_; simp; (first | done | omega))
                                  · try simp only [decide_eq_true_eq, decide_eq_false_iff_not, Bool.not_eq_true', Bool.not_eq_false', Bool.and_eq_true, Bool.or_eq_true, Bool.and_eq_false_iff, Bool.or_eq_false_iff, beq_iff_eq, bne_iff_ne, beq_eq_false_iff_ne, bne_eq_false_iff_eq, ne_eq, Decidable.not_not, Bool.decide_eq_true] at h17_
                                    refine aw_skipT ?_
                                    refine aw_seq ?_
                                    refine aw_seq ?_
                                    refine aw_region ?_
                                    refine al_opd rfl rfl rfl (ao_mv (v := .int _ _) rfl) ?_
                                    refine al_opd rfl rfl rfl (ao_mv (v := .int _ _) rfl) ?_
                                    refine al_opd rfl rfl rfl (ao_neq rfl rfl) ?_
                                    refine al_nilT ?_
                                    refine aw_cond rfl (fun h18_ => ?_) (fun h18_ => ?_)
                                    · try simp only [decide_eq_true_eq, decide_eq_false_iff_not, Bool.not_eq_true', Bool.not_eq_false', Bool.and_eq_true, Bool.or_eq_true, Bool.and_eq_false_iff, Bool.or_eq_false_iff, beq_iff_eq, bne_iff_ne, beq_eq_false_iff_ne, bne_eq_false_iff_eq, ne_eq, Decidable.not_not, Bool.decide_eq_true] at h18_
                                      first | done | omega | (exfalso; revert h18_; simp; (first | done | omega))
                                    · try simp only [decide_eq_true_eq, decide_eq_false_iff_not, Bool.not_eq_true', Bool.not_eq_false', Bool.and_eq_true, Bool.or_eq_true, Bool.and_eq_false_iff, Bool.or_eq_false_iff, beq_iff_eq, bne_iff_ne, beq_eq_false_iff_ne, bne_eq_false_iff_eq, ne_eq, Decidable.not_not, Bool.decide_eq_true] at h18_
                                      refine aw_skipT ?_
                                      refine aw_seq ?_
                                      refine aw_region ?_
                                      refine al_opd rfl rfl rfl (ao_as (v := .bool _) rfl) ?_
                                      refine al_nilT ?_
                                      refine aw_ret ?_
                                      refine ends1 rfl (rv_tmp (v := .bool _) rfl) ?_
                                      exact ⟨by first | rfl | (simp [*]; (first | done | fail)), by exact SMp⟩

-- laws.FnExactCutRope
theorem lawCut2_c {L m : Int} {v : Value} {l : List Int} {H : AHeap} (ha : Sl H i16 1 v l) (hl : l.length ≤ 9223372036854775807) (hL : -32768 ≤ L ∧ L ≤ 32767) (hv : okRope L l) (hm : ¬ (0 ≤ m ∧ m ≤ (l.length : Int) - 1)) : ACd Try.prog 3 [.agg #[.int .i16 L, v], .int .i64 m] H (.bool true) (H) := by
  refine ac_gc0 (fun β => VR.plainT β (by first | rfl | simp [plainT, plainV, plain1])) (ac_body Try.func3 rfl Try.ntmps3 rfl ?_)
  refine aw_seq ?_
  refine aw_region ?_
  refine al_opd rfl rfl rfl (ao_boxa (by rfl)) ?_
  refine al_opd rfl rfl rfl (ao_as (v := .bool _) rfl) ?_
  refine al_nilT ?_
  refine aw_seq ?_
  refine aw_region ?_
  refine al_opd rfl rfl rfl (ao_as (v := .int _ _) rfl) ?_
  refine al_nilT ?_
  refine aw_seq ?_
  refine aw_region ?_
  refine al_opd rfl rfl rfl (ao_loada Try.isAgg25 Try.sizeOf25 rfl (by exact HLp) (by rfl) (by exact RFp)) ?_
  refine al_opd rfl rfl rfl (ao_mv (v := .int _ _) rfl) ?_
  refine al_opd rfl rfl rfl (ao_calld (szRope_c (L := L) (v := v) (l := l) (k := 1048576) (ha.mono (by exact SMp)) hl (by omega)) Try.call5 rfl rfl) ?_
  refine al_opd rfl rfl rfl (ao_as (v := .int _ _) rfl) ?_
  refine al_nilT ?_
  refine aw_seq ?_
  refine aw_seq ?_
  refine aw_region ?_
  refine al_opd rfl rfl rfl (ao_mv (v := .int _ _) rfl) ?_
  refine al_opd rfl rfl rfl (ao_lss rfl rfl) ?_
  refine al_nilT ?_
  refine aw_cond rfl (fun h1_ => ?_) (fun h1_ => ?_)
  · try simp only [decide_eq_true_eq, decide_eq_false_iff_not, Bool.not_eq_true', Bool.not_eq_false', Bool.and_eq_true, Bool.or_eq_true, Bool.and_eq_false_iff, Bool.or_eq_false_iff, beq_iff_eq, bne_iff_ne, beq_eq_false_iff_ne, bne_eq_false_iff_eq, ne_eq, Decidable.not_not, Bool.decide_eq_true] at h1_
    refine aw_seq ?_
    refine aw_region ?_
    refine al_opd rfl rfl rfl (ao_as (v := .bool _) rfl) ?_
    refine al_nilT ?_
    refine aw_ret ?_
    refine thenA_r ?_
    refine ends1 rfl (rv_tmp (v := .bool _) rfl) ?_
    exact ⟨by first | rfl | (simp [*]; (first | done | fail)), by exact SMp⟩
  · try simp only [decide_eq_true_eq, decide_eq_false_iff_not, Bool.not_eq_true', Bool.not_eq_false', Bool.and_eq_true, Bool.or_eq_true, Bool.and_eq_false_iff, Bool.or_eq_false_iff, beq_iff_eq, bne_iff_ne, beq_eq_false_iff_ne, bne_eq_false_iff_eq, ne_eq, Decidable.not_not, Bool.decide_eq_true] at h1_
    have hl1 : l.length ≤ 1048576 := by omega
    refine aw_skipT ?_
    refine aw_seq ?_
    refine aw_region ?_
    refine al_opd rfl rfl rfl (ao_loada Try.isAgg25 Try.sizeOf25 rfl (by exact HLp) (by rfl) (by exact RFp)) ?_
    refine al_opd rfl rfl rfl (ao_calld (toRope_c (L := L) (v := v) (l := l) (ha.mono (by exact SMp)) (by omega)) Try.call7 rfl rfl) ?_
    refine al_opd rfl rfl rfl (ao_mv (v := .int _ _) rfl) ?_
    refine al_opd rfl rfl rfl (ao_calld (specCut2_c (L := L) (ks := l) (by exact HLp) (by omega) (by omega) hL hv hm) Try.call6 rfl rfl) ?_
    refine al_opd rfl rfl rfl (ao_mv (v := .tuple _) rfl) ?_
    refine al_opd rfl rfl rfl (ao_extract (v := .agg _) rfl rfl) ?_
    refine al_opd rfl rfl rfl (ao_extract (v := .agg _) rfl rfl) ?_
    refine al_opd rfl rfl rfl (ao_extract (v := .int _ _) rfl rfl) ?_
    refine al_opd rfl rfl rfl (ao_alloca (zv27) (by rfl)) ?_
    refine al_opd rfl rfl rfl (ao_alloca (zv27) (by rfl)) ?_
    first | refine al_opd rfl rfl rfl ((ao_storeL Try.sizeOf27 (by rfl) (by rfl) (by exact HLp) (by exact RFp) (by exact RFp) (by exact RFp)).to (SetR.eq (by exact SRp))) ?_ | refine al_opd rfl rfl rfl ((ao_storeP (ds := [.int _ _, .slice _ _ _]) Try.sizeOf27 (by rfl) (by rfl) (by exact HLp) (by exact RFp) (by exact RFp) (by exact LTp)).to (SetR.eq (by exact SRp))) ?_
    first | refine al_opd rfl rfl rfl ((ao_storeL Try.sizeOf27 (by rfl) (by rfl) (by exact HLp) (by exact RFp) (by exact RFp) (by exact RFp)).to (SetR.eq (by exact SRp))) ?_ | refine al_opd rfl rfl rfl ((ao_storeP (ds := [.int _ _, .slice _ _ _]) Try.sizeOf27 (by rfl) (by rfl) (by exact HLp) (by exact RFp) (by exact RFp) (by exact LTp)).to (SetR.eq (by exact SRp))) ?_
    refine al_opd rfl rfl rfl (ao_as (v := .int _ _) rfl) ?_
    refine al_nilT ?_
    refine aw_seq ?_
    refine aw_region ?_
    refine al_opd rfl rfl rfl (ao_loada Try.isAgg25 Try.sizeOf25 rfl (by exact HLp) (by rfl) (by exact RFp)) ?_
    refine al_opd rfl rfl rfl (ao_calld (toRope_c (L := L) (v := v) (l := l) (ha.mono (by exact SMp)) (by omega)) Try.call7 rfl rfl) ?_
    refine al_opd rfl rfl rfl (ao_alloca (zv27) (by rfl)) ?_
    first | refine al_opd rfl rfl rfl ((ao_storeL Try.sizeOf27 (by rfl) (by rfl) (by exact HLp) (by exact RFp) (by exact RFp) (by exact RFp)).to (SetR.eq (by exact SRp))) ?_ | refine al_opd rfl rfl rfl ((ao_storeP (ds := [.int _ _, .slice _ _ _]) Try.sizeOf27 (by rfl) (by rfl) (by exact HLp) (by exact RFp) (by exact RFp) (by exact LTp)).to (SetR.eq (by exact SRp))) ?_
    refine al_nilT ?_
    refine aw_seq ?_
    refine aw_region ?_
    refine al_opd rfl rfl rfl (ao_loada Try.isAgg27 Try.sizeOf27 rfl (by exact HLp) (by rfl) (by exact RFp)) ?_
    refine al_opd rfl rfl rfl (ao_mv (v := .int _ _) rfl) ?_
    refine al_opd rfl rfl rfl (ao_calld (implCut2_c (L := L) (ks := l) (by exact HLp) (by omega) (by omega) hL hv hm) Try.call8 rfl rfl) ?_
    refine al_opd rfl rfl rfl (ao_mv (v := .tuple _) rfl) ?_
    refine al_opd rfl rfl rfl (ao_extract (v := .agg _) rfl rfl) ?_
    refine al_opd rfl rfl rfl (ao_extract (v := .agg _) rfl rfl) ?_
    refine al_opd rfl rfl rfl (ao_extract (v := .int _ _) rfl rfl) ?_
    refine al_opd rfl rfl rfl (ao_alloca (zv27) (by rfl)) ?_
    refine al_opd rfl rfl rfl (ao_alloca (zv27) (by rfl)) ?_
    first | refine al_opd rfl rfl rfl ((ao_storeL Try.sizeOf27 (by rfl) (by rfl) (by exact HLp) (by exact RFp) (by exact RFp) (by exact RFp)).to (SetR.eq (by exact SRp))) ?_ | refine al_opd rfl rfl rfl ((ao_storeP (ds := [.int _ _, .slice _ _ _]) Try.sizeOf27 (by rfl) (by rfl) (by exact HLp) (by exact RFp) (by exact RFp) (by exact LTp)).to (SetR.eq (by exact SRp))) ?_
    first | refine al_opd rfl rfl rfl ((ao_storeL Try.sizeOf27 (by rfl) (by rfl) (by exact HLp) (by exact RFp) (by exact RFp) (by exact RFp)).to (SetR.eq (by exact SRp))) ?_ | refine al_opd rfl rfl rfl ((ao_storeP (ds := [.int _ _, .slice _ _ _]) Try.sizeOf27 (by rfl) (by rfl) (by exact HLp) (by exact RFp) (by exact RFp) (by exact LTp)).to (SetR.eq (by exact SRp))) ?_
    refine al_opd rfl rfl rfl (ao_as (v := .int _ _) rfl) ?_
    refine al_nilT ?_
    refine aw_seq ?_
    refine aw_seq ?_
    refine aw_region ?_
    refine al_opd rfl rfl rfl (ao_loada Try.isAgg27 Try.sizeOf27 rfl (by exact HLp) (by rfl) (by exact RFp)) ?_
    refine al_opd rfl rfl rfl (ao_loada Try.isAgg27 Try.sizeOf27 rfl (by exact HLp) (by rfl) (by exact RFp)) ?_
    refine al_opd rfl rfl rfl (ao_calld (eqRope_c (L := 0) (M := 0) (l := []) (m := []) Sl.nil Sl.nil (by simp)) Try.call9 rfl rfl) ?_
    refine al_opd rfl rfl rfl (ao_not rfl) ?_
    refine al_opd rfl rfl rfl (ao_mv (v := .bool _) rfl) ?_
    refine al_cases (d := 45) rfl (fun h2_ => ?_) (fun h2_ => ?_)
    · try simp only [decide_eq_true_eq, decide_eq_false_iff_not, Bool.not_eq_true', Bool.not_eq_false', Bool.and_eq_true, Bool.or_eq_true, Bool.and_eq_false_iff, Bool.or_eq_false_iff, beq_iff_eq, bne_iff_ne, beq_eq_false_iff_ne, bne_eq_false_iff_eq, ne_eq, Decidable.not_not, Bool.decide_eq_true] at h2_
      first | done | omega | (exfalso; revert h2_; simp; (first | done | omega))
    · try simp only [decide_eq_true_eq, decide_eq_false_iff_not, Bool.not_eq_true', Bool.not_eq_false', Bool.and_eq_true, Bool.or_eq_true, Bool.and_eq_false_iff, Bool.or_eq_false_iff, beq_iff_eq, bne_iff_ne, beq_eq_false_iff_ne, bne_eq_false_iff_eq, ne_eq, Decidable.not_not, Bool.decide_eq_true] at h2_
      refine al_gyes rfl rfl rfl rfl rfl (ao_loada Try.isAgg27 Try.sizeOf27 rfl (by exact HLp) (by rfl) (by exact RFp)) ?_
      refine al_gyes rfl rfl rfl rfl rfl (ao_loada Try.isAgg27 Try.sizeOf27 rfl (by exact HLp) (by rfl) (by exact RFp)) ?_
      refine al_gyes rfl rfl rfl rfl rfl (ao_calld (eqRope_c (L := 0) (M := 0) (l := []) (m := []) Sl.nil Sl.nil (by simp)) Try.call9 rfl rfl) ?_
      refine al_gyes rfl rfl rfl rfl rfl (ao_not rfl) ?_
      refine al_opd rfl rfl rfl (ao_pickF rfl (v := .bool _) rfl) ?_
      refine al_opd rfl rfl rfl (ao_mv (v := .bool _) rfl) ?_
      refine al_cases (d := 51) rfl (fun h3_ => ?_) (fun h3_ => ?_)
      · try simp only [decide_eq_true_eq, decide_eq_false_iff_not, Bool.not_eq_true', Bool.not_eq_false', Bool.and_eq_true, Bool.or_eq_true, Bool.and_eq_false_iff, Bool.or_eq_false_iff, beq_iff_eq, bne_iff_ne, beq_eq_false_iff_ne, bne_eq_false_iff_eq, ne_eq, Decidable.not_not, Bool.decide_eq_true] at h3_
        first | done | omega | (exfalso; revert h3_; simp; (first | done | omega))
      · try simp only [decide_eq_true_eq, decide_eq_false_iff_not, Bool.not_eq_true', Bool.not_eq_false', Bool.and_eq_true, Bool.or_eq_true, Bool.and_eq_false_iff, Bool.or_eq_false_iff, beq_iff_eq, bne_iff_ne, beq_eq_false_iff_ne, bne_eq_false_iff_eq, ne_eq, Decidable.not_not, Bool.decide_eq_true] at h3_
        refine al_gyes rfl rfl rfl rfl rfl (ao_mv (v := .int _ _) rfl) ?_
        refine al_gyes rfl rfl rfl rfl rfl (ao_mv (v := .int _ _) rfl) ?_
        refine al_gyes rfl rfl rfl rfl rfl (ao_neq rfl rfl) ?_
        refine al_opd rfl rfl rfl (ao_pickF rfl (v := .bool _) rfl) ?_
        refine al_nilT ?_
        refine aw_cond rfl (fun h4_ => ?_) (fun h4_ => ?_)
        · try simp only [decide_eq_true_eq, decide_eq_false_iff_not, Bool.not_eq_true', Bool.not_eq_false', Bool.and_eq_true, Bool.or_eq_true, Bool.and_eq_false_iff, Bool.or_eq_false_iff, beq_iff_eq, bne_iff_ne, beq_eq_false_iff_ne, bne_eq_false_iff_eq, ne_eq, Decidable.not_not, Bool.decide_eq_true] at h4_
          first | done | omega | (exfalso; revert h4_; simp; (first | done | omega))
        · try simp only [decide_eq_true_eq, decide_eq_false_iff_not, Bool.not_eq_true', Bool.not_eq_false', Bool.and_eq_true, Bool.or_eq_true, Bool.and_eq_false_iff, Bool.or_eq_false_iff, beq_iff_eq, bne_iff_ne, beq_eq_false_iff_ne, bne_eq_false_iff_eq, ne_eq, Decidable.not_not, Bool.decide_eq_true] at h4_
          refine aw_skipT ?_
          refine aw_seq ?_
          refine aw_seq ?_
          refine aw_draw (m := 5) mo (by kernel_rfl) rfl (fun _ _ _ h => h) ?_
          refine dw_opd rfl rfl rfl (ao_loada Try.isAgg27 Try.sizeOf27 rfl (by exact HLp) (by rfl) (by exact RFp)) ?_
          refine dw_opd rfl rfl rfl (ao_loada Try.isAgg25 Try.sizeOf25 rfl (by exact HLp) (by rfl) (by exact RFp)) ?_
          refine dw_opn rfl rfl rfl (ao_calld (toRope_c (L := L) (v := v) (l := l) (ha.mono (by exact SMp)) (by omega)) Try.call7 rfl rfl) ?_
          refine dw_opd rfl rfl rfl (ao_calld (eqRope_c (L := L) (M := L) (l := l) (m := l) (Sl.full i16_len (by exact HLp) rfl rfl rfl) (Sl.full i16_len (by exact HLp) rfl rfl rfl) (by omega)) Try.call9 rfl rfl) ?_
          refine dw_opd rfl rfl rfl (ao_not rfl) ?_
          refine dw_end ?_
          refine al_nilT ?_
          refine aw_cond rfl (fun h5_ => ?_) (fun h5_ => ?_)
          · try simp only [decide_eq_true_eq, decide_eq_false_iff_not, Bool.not_eq_true', Bool.not_eq_false', Bool.and_eq_true, Bool.or_eq_true, Bool.and_eq_false_iff, Bool.or_eq_false_iff, beq_iff_eq, bne_iff_ne, beq_eq_false_iff_ne, bne_eq_false_iff_eq, ne_eq, Decidable.not_not, Bool.decide_eq_true] at h5_
            first | done | omega | (exfalso; revert h5_; simp; (first | done | omega))
          · try simp only [decide_eq_true_eq, decide_eq_false_iff_not, Bool.not_eq_true', Bool.not_eq_false', Bool.and_eq_true, Bool.or_eq_true, Bool.and_eq_false_iff, Bool.or_eq_false_iff, beq_iff_eq, bne_iff_ne, beq_eq_false_iff_ne, bne_eq_false_iff_eq, ne_eq, Decidable.not_not, Bool.decide_eq_true] at h5_
            refine aw_skipT ?_
            refine aw_seq ?_
            refine aw_region ?_
            refine al_opd rfl rfl rfl (ao_as (v := .int _ _) rfl) ?_
            refine al_nilT ?_
            refine aw_seq ?_
            refine aw_region ?_
            refine al_opd rfl rfl rfl (ao_loada Try.isAgg27 Try.sizeOf27 rfl (by exact HLp) (by rfl) (by exact RFp)) ?_
            refine al_opd rfl rfl rfl (ao_mv (v := .int _ _) rfl) ?_
            refine al_opd rfl rfl rfl ((ao_calld (markRope_c (L := L) (l := l) (k := 1) (by exact HLp) (by omega) (by omega)) Try.call10 rfl rfl).to (SetR.eq (by exact SRp))) ?_
            refine al_opd rfl rfl rfl (ao_as (v := .int _ _) rfl) ?_
            refine al_nilT ?_
            refine aw_seq ?_
            refine aw_seq ?_
            refine aw_region ?_
            refine al_opd rfl rfl rfl (ao_mv (v := .int _ _) rfl) ?_
            refine al_opd rfl rfl rfl (ao_lss rfl rfl) ?_
            refine al_opd rfl rfl rfl (ao_mv (v := .bool _) rfl) ?_
            refine al_cases (d := 66) rfl (fun h6_ => ?_) (fun h6_ => ?_)
            · try simp only [decide_eq_true_eq, decide_eq_false_iff_not, Bool.not_eq_true', Bool.not_eq_false', Bool.and_eq_true, Bool.or_eq_true, Bool.and_eq_false_iff, Bool.or_eq_false_iff, beq_iff_eq, bne_iff_ne, beq_eq_false_iff_ne, bne_eq_false_iff_eq, ne_eq, Decidable.not_not, Bool.decide_eq_true] at h6_
              first | done | omega | (exfalso; revert h6_; simp; (first | done | omega))
            · try simp only [decide_eq_true_eq, decide_eq_false_iff_not, Bool.not_eq_true', Bool.not_eq_false', Bool.and_eq_true, Bool.or_eq_true, Bool.and_eq_false_iff, Bool.or_eq_false_iff, beq_iff_eq, bne_iff_ne, beq_eq_false_iff_ne, bne_eq_false_iff_eq, ne_eq, Decidable.not_not, Bool.decide_eq_true] at h6_
              refine al_gyes rfl rfl rfl rfl rfl (ao_loada Try.isAgg27 Try.sizeOf27 rfl (by exact HLp) (by rfl) (by exact RFp)) ?_
              refine al_gyes rfl rfl rfl rfl rfl (ao_loada Try.isAgg27 Try.sizeOf27 rfl (by exact HLp) (by rfl) (by exact RFp)) ?_
              refine al_gyes rfl rfl rfl rfl rfl (ao_calld (eqRope_c (L := 0) (M := 0) (l := []) (m := []) Sl.nil Sl.nil (by simp)) Try.call9 rfl rfl) ?_
              refine al_gyes rfl rfl rfl rfl rfl (ao_not rfl) ?_
              refine al_opd rfl rfl rfl (ao_pickF rfl (v := .bool _) rfl) ?_
              refine al_opd rfl rfl rfl (ao_mv (v := .bool _) rfl) ?_
              refine al_cases (d := 72) rfl (fun h7_ => ?_) (fun h7_ => ?_)
              · try simp only [decide_eq_true_eq, decide_eq_false_iff_not, Bool.not_eq_true', Bool.not_eq_false', Bool.and_eq_true, Bool.or_eq_true, Bool.and_eq_false_iff, Bool.or_eq_false_iff, beq_iff_eq, bne_iff_ne, beq_eq_false_iff_ne, bne_eq_false_iff_eq, ne_eq, Decidable.not_not, Bool.decide_eq_true] at h7_
                first | done | omega | (exfalso; revert h7_; simp; (first | done | omega))
              · try simp only [decide_eq_true_eq, decide_eq_false_iff_not, Bool.not_eq_true', Bool.not_eq_false', Bool.and_eq_true, Bool.or_eq_true, Bool.and_eq_false_iff, Bool.or_eq_false_iff, beq_iff_eq, bne_iff_ne, beq_eq_false_iff_ne, bne_eq_false_iff_eq, ne_eq, Decidable.not_not, Bool.decide_eq_true] at h7_
                refine al_gyes rfl rfl rfl rfl rfl (ao_loada Try.isAgg27 Try.sizeOf27 rfl (by exact HLp) (by rfl) (by exact RFp)) ?_
                refine al_gyes rfl rfl rfl rfl rfl (ao_loada Try.isAgg27 Try.sizeOf27 rfl (by exact HLp) (by rfl) (by exact RFp)) ?_
                refine al_gyes rfl rfl rfl rfl rfl (ao_calld (eqRope_c (L := 0) (M := 0) (l := []) (m := []) Sl.nil Sl.nil (by simp)) Try.call9 rfl rfl) ?_
                refine al_gyes rfl rfl rfl rfl rfl (ao_not rfl) ?_
                refine al_opd rfl rfl rfl (ao_pickF rfl (v := .bool _) rfl) ?_
                refine al_opd rfl rfl rfl (ao_mv (v := .bool _) rfl) ?_
                refine al_cases (d := 78) rfl (fun h8_ => ?_) (fun h8_ => ?_)
                · try simp only [decide_eq_true_eq, decide_eq_false_iff_not, Bool.not_eq_true', Bool.not_eq_false', Bool.and_eq_true, Bool.or_eq_true, Bool.and_eq_false_iff, Bool.or_eq_false_iff, beq_iff_eq, bne_iff_ne, beq_eq_false_iff_ne, bne_eq_false_iff_eq, ne_eq, Decidable.not_not, Bool.decide_eq_true] at h8_
                  first | done | omega | (exfalso; revert h8_; simp; (first | done | omega))
                · try simp only [decide_eq_true_eq, decide_eq_false_iff_not, Bool.not_eq_true', Bool.not_eq_false', Bool.and_eq_true, Bool.or_eq_true, Bool.and_eq_false_iff, Bool.or_eq_false_iff, beq_iff_eq, bne_iff_ne, beq_eq_false_iff_ne, bne_eq_false_iff_eq, ne_eq, Decidable.not_not, Bool.decide_eq_true] at h8_
                  refine al_gyes rfl rfl rfl rfl rfl (ao_mv (v := .int _ _) rfl) ?_
                  refine al_gyes rfl rfl rfl rfl rfl (ao_mv (v := .int _ _) rfl) ?_
                  refine al_gyes rfl rfl rfl rfl rfl (ao_neq rfl rfl) ?_
                  refine al_opd rfl rfl rfl (ao_pickF rfl (v := .bool _) rfl) ?_
                  refine al_nilT ?_
                  refine aw_cond rfl (fun h9_ => ?_) (fun h9_ => ?_)
                  · try simp only [decide_eq_true_eq, decide_eq_false_iff_not, Bool.not_eq_true', Bool.not_eq_false', Bool.and_eq_true, Bool.or_eq_true, Bool.and_eq_false_iff, Bool.or_eq_false_iff, beq_iff_eq, bne_iff_ne, beq_eq_false_iff_ne, bne_eq_false_iff_eq, ne_eq, Decidable.not_not, Bool.decide_eq_true] at h9_
                    first | done | omega | (exfalso; revert h9_; simp; (first | done | omega))
                  · try simp only [decide_eq_true_eq, decide_eq_false_iff_not, Bool.not_eq_true', Bool.not_eq_false', Bool.and_eq_true, Bool.or_eq_true, Bool.and_eq_false_iff, Bool.or_eq_false_iff, beq_iff_eq, bne_iff_ne, beq_eq_false_iff_ne, bne_eq_false_iff_eq, ne_eq, Decidable.not_not, Bool.decide_eq_true] at h9_
                    refine aw_skipT ?_
                    refine aw_seq ?_
                    refine aw_region ?_
                    refine al_opd rfl rfl rfl (ao_as (v := .int _ _) rfl) ?_
                    refine al_nilT ?_
                    refine aw_seq ?_
                    refine aw_region ?_
                    refine al_opd rfl rfl rfl (ao_loada Try.isAgg27 Try.sizeOf27 rfl (by exact HLp) (by rfl) (by exact RFp)) ?_
                    refine al_opd rfl rfl rfl (ao_mv (v := .int _ _) rfl) ?_
                    refine al_opd rfl rfl rfl (ao_calld (markRope0_c (L := 0) (k := 1)) Try.call10 rfl rfl) ?_
                    refine al_opd rfl rfl rfl (ao_as (v := .int _ _) rfl) ?_
                    refine al_nilT ?_
                    refine aw_seq ?_
                    refine aw_region ?_
                    refine al_opd rfl rfl rfl (ao_loada Try.isAgg27 Try.sizeOf27 rfl (by exact HLp) (by rfl) (by exact RFp)) ?_
                    refine al_opd rfl rfl rfl (ao_mv (v := .int _ _) rfl) ?_
                    refine al_opd rfl rfl rfl (ao_calld (markRope0_c (L := 0) (k := 1)) Try.call10 rfl rfl) ?_
                    refine al_opd rfl rfl rfl (ao_as (v := .int _ _) rfl) ?_
                    refine al_nilT ?_
                    refine aw_seq ?_
                    refine aw_region ?_
                    refine al_opd rfl rfl rfl (ao_as (v := .int _ _) rfl) ?_
                    refine al_nilT ?_
                    refine aw_seq ?_
                    refine aw_region ?_
                    refine al_opd rfl rfl rfl (ao_loada Try.isAgg27 Try.sizeOf27 rfl (by exact HLp) (by rfl) (by exact RFp)) ?_
                    refine al_opd rfl rfl rfl (ao_mv (v := .int _ _) rfl) ?_
                    refine al_opd rfl rfl rfl (ao_calld (heldRope_c (L := 0) (n := 0) (k := 1) Sl.nil (by omega) (by omega)) Try.call11 rfl rfl) ?_
                    refine al_opd rfl rfl rfl (ao_as (v := .int _ _) rfl) ?_
                    refine al_nilT ?_
                    refine aw_seq ?_
                    refine aw_seq ?_
                    refine aw_region ?_
                    refine al_opd rfl rfl rfl (ao_mv (v := .int _ _) rfl) ?_
                    refine al_opd rfl rfl rfl (ao_lss rfl rfl) ?_
                    refine al_nilT ?_
                    refine aw_cond rfl (fun h10_ => ?_) (fun h10_ => ?_)
                    · try simp only [decide_eq_true_eq, decide_eq_false_iff_not, Bool.not_eq_true', Bool.not_eq_false', Bool.and_eq_true, Bool.or_eq_true, Bool.and_eq_false_iff, Bool.or_eq_false_iff, beq_iff_eq, bne_iff_ne, beq_eq_false_iff_ne, bne_eq_false_iff_eq, ne_eq, Decidable.not_not, Bool.decide_eq_true] at h10_
                      first | done | omega | (exfalso; revert h10_; simp; (first | done | omega))
                    · try simp only [decide_eq_true_eq, decide_eq_false_iff_not, Bool.not_eq_true', Bool.not_eq_false', Bool.and_eq_true, Bool.or_eq_true, Bool.and_eq_false_iff, Bool.or_eq_false_iff, beq_iff_eq, bne_iff_ne, beq_eq_false_iff_ne, bne_eq_false_iff_eq, ne_eq, Decidable.not_not, Bool.decide_eq_true] at h10_
                      refine aw_skipT ?_
                      refine aw_seq ?_
                      refine aw_region ?_
                      refine al_opd rfl rfl rfl (ao_loada Try.isAgg27 Try.sizeOf27 rfl (by exact HLp) (by rfl) (by exact RFp)) ?_
                      refine al_opd rfl rfl rfl (ao_mv (v := .int _ _) rfl) ?_
                      refine al_opd rfl rfl rfl (ao_calld (heldRope_c (L := 0) (n := 0) (k := 1) Sl.nil (by omega) (by omega)) Try.call11 rfl rfl) ?_
                      refine al_opd rfl rfl rfl (ao_as (v := .int _ _) rfl) ?_
                      refine al_nilT ?_
                      refine aw_seq ?_
                      refine aw_seq ?_
                      refine aw_region ?_
                      refine al_opd rfl rfl rfl (ao_mv (v := .int _ _) rfl) ?_
                      refine al_opd rfl rfl rfl (ao_lss rfl rfl) ?_
                      refine al_nilT ?_
                      refine aw_cond rfl (fun h11_ => ?_) (fun h11_ => ?_)
                      · try simp only [decide_eq_true_eq, decide_eq_false_iff_not, Bool.not_eq_true', Bool.not_eq_false', Bool.and_eq_true, Bool.or_eq_true, Bool.and_eq_false_iff, Bool.or_eq_false_iff, beq_iff_eq, bne_iff_ne, beq_eq_false_iff_ne, bne_eq_false_iff_eq, ne_eq, Decidable.not_not, Bool.decide_eq_true] at h11_
                        first | done | omega | (exfalso; revert h11_; simp; (first | done | omega))
                      · try simp only [decide_eq_true_eq, decide_eq_false_iff_not, Bool.not_eq_true', Bool.not_eq_false', Bool.and_eq_true, Bool.or_eq_true, Bool.and_eq_false_iff, Bool.or_eq_false_iff, beq_iff_eq, bne_iff_ne, beq_eq_false_iff_ne, bne_eq_false_iff_eq, ne_eq, Decidable.not_not, Bool.decide_eq_true] at h11_
                        refine aw_skipT ?_
                        refine aw_seq ?_
                        refine aw_seq ?_
                        refine aw_region ?_
                        refine al_opd rfl rfl rfl (ao_mv (v := .int _ _) rfl) ?_
                        refine al_opd rfl rfl rfl (ao_mv (v := .int _ _) rfl) ?_
                        refine al_opd rfl rfl rfl (ao_neq rfl rfl) ?_
                        refine al_nilT ?_
                        refine aw_cond rfl (fun h12_ => ?_) (fun h12_ => ?_)
                        · try simp only [decide_eq_true_eq, decide_eq_false_iff_not, Bool.not_eq_true', Bool.not_eq_false', Bool.and_eq_true, Bool.or_eq_true, Bool.and_eq_false_iff, Bool.or_eq_false_iff, beq_iff_eq, bne_iff_ne, beq_eq_false_iff_ne, bne_eq_false_iff_eq, ne_eq, Decidable.not_not, Bool.decide_eq_true] at h12_
                          first | done | omega | (exfalso; revert h12_; simp; (first | done | omega))
                        · try simp only [decide_eq_true_eq, decide_eq_false_iff_not, Bool.not_eq_true', Bool.not_eq_false', Bool.and_eq_true, Bool.or_eq_true, Bool.and_eq_false_iff, Bool.or_eq_false_iff, beq_iff_eq, bne_iff_ne, beq_eq_false_iff_ne, bne_eq_false_iff_eq, ne_eq, Decidable.not_not, Bool.decide_eq_true] at h12_
                          refine aw_skipT ?_
                          refine aw_seq ?_
                          refine aw_region ?_
                          refine al_opd rfl rfl rfl (ao_loada Try.isAgg25 Try.sizeOf25 rfl (by exact HLp) (by rfl) (by exact RFp)) ?_
                          refine al_opd rfl rfl rfl (ao_calld (toRope_c (L := L) (v := v) (l := l) (ha.mono (by exact SMp)) (by omega)) Try.call7 rfl rfl) ?_
                          refine al_opd rfl rfl rfl (ao_mv (v := .int _ _) rfl) ?_
                          refine al_opd rfl rfl rfl (ao_calld (implCut2_c (L := L) (ks := l) (by exact HLp) (by omega) (by omega) hL hv hm) Try.call8 rfl rfl) ?_
                          refine al_opd rfl rfl rfl (ao_mv (v := .tuple _) rfl) ?_
                          refine al_opd rfl rfl rfl (ao_extract (v := .agg _) rfl rfl) ?_
                          refine al_opd rfl rfl rfl (ao_extract (v := .agg _) rfl rfl) ?_
                          refine al_opd rfl rfl rfl (ao_extract (v := .int _ _) rfl rfl) ?_
                          refine al_opd rfl rfl rfl (ao_alloca (zv27) (by rfl)) ?_
                          refine al_opd rfl rfl rfl (ao_alloca (zv27) (by rfl)) ?_
                          first | refine al_opd rfl rfl rfl ((ao_storeL Try.sizeOf27 (by rfl) (by rfl) (by exact HLp) (by exact RFp) (by exact RFp) (by exact RFp)).to (SetR.eq (by exact SRp))) ?_ | refine al_opd rfl rfl rfl ((ao_storeP (ds := [.int _ _, .slice _ _ _]) Try.sizeOf27 (by rfl) (by rfl) (by exact HLp) (by exact RFp) (by exact RFp) (by exact LTp)).to (SetR.eq (by exact SRp))) ?_
                          first | refine al_opd rfl rfl rfl ((ao_storeL Try.sizeOf27 (by rfl) (by rfl) (by exact HLp) (by exact RFp) (by exact RFp) (by exact RFp)).to (SetR.eq (by exact SRp))) ?_ | refine al_opd rfl rfl rfl ((ao_storeP (ds := [.int _ _, .slice _ _ _]) Try.sizeOf27 (by rfl) (by rfl) (by exact HLp) (by exact RFp) (by exact RFp) (by exact LTp)).to (SetR.eq (by exact SRp))) ?_
                          refine al_opd rfl rfl rfl (ao_as (v := .int _ _) rfl) ?_
                          refine al_nilT ?_
                          refine aw_seq ?_
                          refine aw_seq ?_
                          refine aw_region ?_
                          refine al_opd rfl rfl rfl (ao_loada Try.isAgg27 Try.sizeOf27 rfl (by exact HLp) (by rfl) (by exact RFp)) ?_
                          refine al_opd rfl rfl rfl (ao_loada Try.isAgg27 Try.sizeOf27 rfl (by exact HLp) (by rfl) (by exact RFp)) ?_
                          refine al_opd rfl rfl rfl (ao_calld (eqRope_c (L := 0) (M := 0) (l := []) (m := []) Sl.nil Sl.nil (by simp)) Try.call9 rfl rfl) ?_
                          refine al_opd rfl rfl rfl (ao_not rfl) ?_
                          refine al_opd rfl rfl rfl (ao_mv (v := .bool _) rfl) ?_
                          refine al_cases (d := 114) rfl (fun h13_ => ?_) (fun h13_ => ?_)
                          · try simp only [decide_eq_true_eq, decide_eq_false_iff_not, Bool.not_eq_true', Bool.not_eq_false', Bool.and_eq_true, Bool.or_eq_true, Bool.and_eq_false_iff, Bool.or_eq_false_iff, beq_iff_eq, bne_iff_ne, beq_eq_false_iff_ne, bne_eq_false_iff_eq, ne_eq, Decidable.not_not, Bool.decide_eq_true] at h13_
                            first | done | omega | (exfalso; revert h13_; simp; (first | done | omega))
                          · try simp only [decide_eq_true_eq, decide_eq_false_iff_not, Bool.not_eq_true', Bool.not_eq_false', Bool.and_eq_true, Bool.or_eq_true, Bool.and_eq_false_iff, Bool.or_eq_false_iff, beq_iff_eq, bne_iff_ne, beq_eq_false_iff_ne, bne_eq_false_iff_eq, ne_eq, Decidable.not_not, Bool.decide_eq_true] at h13_
                            refine al_gyes rfl rfl rfl rfl rfl (ao_loada Try.isAgg27 Try.sizeOf27 rfl (by exact HLp) (by rfl) (by exact RFp)) ?_
                            refine al_gyes rfl rfl rfl rfl rfl (ao_loada Try.isAgg27 Try.sizeOf27 rfl (by exact HLp) (by rfl) (by exact RFp)) ?_
                            refine al_gyes rfl rfl rfl rfl rfl (ao_calld (eqRope_c (L := 0) (M := 0) (l := []) (m := []) Sl.nil Sl.nil (by simp)) Try.call9 rfl rfl) ?_
                            refine al_gyes rfl rfl rfl rfl rfl (ao_not rfl) ?_
                            refine al_opd rfl rfl rfl (ao_pickF rfl (v := .bool _) rfl) ?_
                            refine al_opd rfl rfl rfl (ao_mv (v := .bool _) rfl) ?_
                            refine al_cases (d := 120) rfl (fun h14_ => ?_) (fun h14_ => ?_)
                            · try simp only [decide_eq_true_eq, decide_eq_false_iff_not, Bool.not_eq_true', Bool.not_eq_false', Bool.and_eq_true, Bool.or_eq_true, Bool.and_eq_false_iff, Bool.or_eq_false_iff, beq_iff_eq, bne_iff_ne, beq_eq_false_iff_ne, bne_eq_false_iff_eq, ne_eq, Decidable.not_not, Bool.decide_eq_true] at h14_
                              first | done | omega | (exfalso; revert h14_; simp; (first | done | omega))
                            · try simp only [decide_eq_true_eq, decide_eq_false_iff_not, Bool.not_eq_true', Bool.not_eq_false', Bool.and_eq_true, Bool.or_eq_true, Bool.and_eq_false_iff, Bool.or_eq_false_iff, beq_iff_eq, bne_iff_ne, beq_eq_false_iff_ne, bne_eq_false_iff_eq, ne_eq, Decidable.not_not, Bool.decide_eq_true] at h14_
                              refine al_gyes rfl rfl rfl rfl rfl (ao_mv (v := .int _ _) rfl) ?_
                              refine al_gyes rfl rfl rfl rfl rfl (ao_mv (v := .int _ _) rfl) ?_
                              refine al_gyes rfl rfl rfl rfl rfl (ao_neq rfl rfl) ?_
                              refine al_opd rfl rfl rfl (ao_pickF rfl (v := .bool _) rfl) ?_
                              refine al_nilT ?_
                              refine aw_cond rfl (fun h15_ => ?_) (fun h15_ => ?_)
                              · try simp only [decide_eq_true_eq, decide_eq_false_iff_not, Bool.not_eq_true', Bool.not_eq_false', Bool.and_eq_true, Bool.or_eq_true, Bool.and_eq_false_iff, Bool.or_eq_false_iff, beq_iff_eq, bne_iff_ne, beq_eq_false_iff_ne, bne_eq_false_iff_eq, ne_eq, Decidable.not_not, Bool.decide_eq_true] at h15_
                                first | done | omega | (exfalso; revert h15_; simp; (first | done | omega))
                              · try simp only [decide_eq_true_eq, decide_eq_false_iff_not, Bool.not_eq_true', Bool.not_eq_false', Bool.and_eq_true, Bool.or_eq_true, Bool.and_eq_false_iff, Bool.or_eq_false_iff, beq_iff_eq, bne_iff_ne, beq_eq_false_iff_ne, bne_eq_false_iff_eq, ne_eq, Decidable.not_not, Bool.decide_eq_true] at h15_
                                refine aw_skipT ?_
                                refine aw_seq ?_
                                refine aw_region ?_
                                refine al_opd rfl rfl rfl (ao_as (v := .int _ _) rfl) ?_
                                refine al_nilT ?_
                                refine aw_seq ?_
                                refine aw_region ?_
                                refine al_opd rfl rfl rfl (ao_loada Try.isAgg27 Try.sizeOf27 rfl (by exact HLp) (by rfl) (by exact RFp)) ?_
                                refine al_opd rfl rfl rfl (ao_mv (v := .int _ _) rfl) ?_
                                refine al_opd rfl rfl rfl (ao_calld (heldRope_c (L := 0) (n := 0) (k := 1) Sl.nil (by omega) (by omega)) Try.call11 rfl rfl) ?_
                                refine al_opd rfl rfl rfl (ao_as (v := .int _ _) rfl) ?_
                                refine al_nilT ?_
                                refine aw_seq ?_
                                refine aw_seq ?_
                                refine aw_region ?_
                                refine al_opd rfl rfl rfl (ao_mv (v := .int _ _) rfl) ?_
                                refine al_opd rfl rfl rfl (ao_lss rfl rfl) ?_
                                refine al_nilT ?_
                                refine aw_cond rfl (fun h16_ => ?_) (fun h16_ => ?_)
                                · try simp only [decide_eq_true_eq, decide_eq_false_iff_not, Bool.not_eq_true', Bool.not_eq_false', Bool.and_eq_true, Bool.or_eq_true, Bool.and_eq_false_iff, Bool.or_eq_false_iff, beq_iff_eq, bne_iff_ne, beq_eq_false_iff_ne, bne_eq_false_iff_eq, ne_eq, Decidable.not_not, Bool.decide_eq_true] at h16_
                                  first | done | omega | (exfalso; revert h16_; simp; (first | done | omega))
                                · try simp only [decide_eq_true_eq, decide_eq_false_iff_not, Bool.not_eq_true', Bool.not_eq_false', Bool.and_eq_true, Bool.or_eq_true, Bool.and_eq_false_iff, Bool.or_eq_false_iff, beq_iff_eq, bne_iff_ne, beq_eq_false_iff_ne, bne_eq_false_iff_eq, ne_eq, Decidable.not_not, Bool.decide_eq_true] at h16_
                                  refine aw_skipT ?_
                                  refine aw_seq ?_
                                  refine aw_region ?_
                                  refine al_opd rfl rfl rfl (ao_loada Try.isAgg27 Try.sizeOf27 rfl (by exact HLp) (by rfl) (by exact RFp)) ?_
                                  refine al_opd rfl rfl rfl (ao_mv (v := .int _ _) rfl) ?_
                                  refine al_opd rfl rfl rfl (ao_calld (heldRope_c (L := 0) (n := 0) (k := 1) Sl.nil (by omega) (by omega)) Try.call11 rfl rfl) ?_
                                  refine al_opd rfl rfl rfl (ao_as (v := .int _ _) rfl) ?_
                                  refine al_nilT ?_
                                  refine aw_seq ?_
                                  refine aw_seq ?_
                                  refine aw_region ?_
                                  refine al_opd rfl rfl rfl (ao_mv (v := .int _ _) rfl) ?_
                                  refine al_opd rfl rfl rfl (ao_lss rfl rfl) ?_
                                  refine al_nilT ?_
                                  refine aw_cond rfl (fun h17_ => ?_) (fun h17_ => ?_)
                                  · try simp only [decide_eq_true_eq, decide_eq_false_iff_not, Bool.not_eq_true', Bool.not_eq_false', Bool.and_eq_true, Bool.or_eq_true, Bool.and_eq_false_iff, Bool.or_eq_false_iff, beq_iff_eq, bne_iff_ne, beq_eq_false_iff_ne, bne_eq_false_iff_eq, ne_eq, Decidable.not_not, Bool.decide_eq_true] at h17_
                                    first | done | omega | (exfalso; revert h17_; simp; (first | done | omega))
                                  · try simp only [decide_eq_true_eq, decide_eq_false_iff_not, Bool.not_eq_true', Bool.not_eq_false', Bool.and_eq_true, Bool.or_eq_true, Bool.and_eq_false_iff, Bool.or_eq_false_iff, beq_iff_eq, bne_iff_ne, beq_eq_false_iff_ne, bne_eq_false_iff_eq, ne_eq, Decidable.not_not, Bool.decide_eq_true] at h17_
                                    refine aw_skipT ?_
                                    refine aw_seq ?_
                                    refine aw_seq ?_
                                    refine aw_region ?_
                                    refine al_opd rfl rfl rfl (ao_mv (v := .int _ _) rfl) ?_
                                    refine al_opd rfl rfl rfl (ao_mv (v := .int _ _) rfl) ?_
                                    refine al_opd rfl rfl rfl (ao_neq rfl rfl) ?_
                                    refine al_nilT ?_
                                    refine aw_cond rfl (fun h18_ => ?_) (fun h18_ => ?_)
                                    · try simp only [decide_eq_true_eq, decide_eq_false_iff_not, Bool.not_eq_true', Bool.not_eq_false', Bool.and_eq_true, Bool.or_eq_true, Bool.and_eq_false_iff, Bool.or_eq_false_iff, beq_iff_eq, bne_iff_ne, beq_eq_false_iff_ne, bne_eq_false_iff_eq, ne_eq, Decidable.not_not, Bool.decide_eq_true] at h18_
                                      first | done | omega | (exfalso; revert h18_; simp; (first | done | omega))
                                    · try simp only [decide_eq_true_eq, decide_eq_false_iff_not, Bool.not_eq_true', Bool.not_eq_false', Bool.and_eq_true, Bool.or_eq_true, Bool.and_eq_false_iff, Bool.or_eq_false_iff, beq_iff_eq, bne_iff_ne, beq_eq_false_iff_ne, bne_eq_false_iff_eq, ne_eq, Decidable.not_not, Bool.decide_eq_true] at h18_
                                      refine aw_skipT ?_
                                      refine aw_seq ?_
                                      refine aw_region ?_
                                      refine al_opd rfl rfl rfl (ao_as (v := .bool _) rfl) ?_
                                      refine al_nilT ?_
                                      refine aw_ret ?_
                                      refine ends1 rfl (rv_tmp (v := .bool _) rfl) ?_
                                      exact ⟨by first | rfl | (simp [*]; (first | done | fail)), by exact SMp⟩

-- laws.FnExactCutRope
theorem lawCut4_c {L m : Int} {v : Value} {l : List Int} {H : AHeap} (ha : Sl H i16 1 v l) (hl : l.length ≤ 9223372036854775807) (hL : -32768 ≤ L ∧ L ≤ 32767) (hv : okRope L l) (hm : m = 0 ∨ m = (l.length : Int) - 1) : ACd Try.prog 3 [.agg #[.int .i16 L, v], .int .i64 m] H (.bool true) (H) := by
  refine ac_gc0 (fun β => VR.plainT β (by first | rfl | simp [plainT, plainV, plain1])) (ac_body Try.func3 rfl Try.ntmps3 rfl ?_)
  refine aw_seq ?_
  refine aw_region ?_
  refine al_opd rfl rfl rfl (ao_boxa (by rfl)) ?_
  refine al_opd rfl rfl rfl (ao_as (v := .bool _) rfl) ?_
  refine al_nilT ?_
  refine aw_seq ?_
  refine aw_region ?_
  refine al_opd rfl rfl rfl (ao_as (v := .int _ _) rfl) ?_
  refine al_nilT ?_
  refine aw_seq ?_
  refine aw_region ?_
  refine al_opd rfl rfl rfl (ao_loada Try.isAgg25 Try.sizeOf25 rfl (by exact HLp) (by rfl) (by exact RFp)) ?_
  refine al_opd rfl rfl rfl (ao_mv (v := .int _ _) rfl) ?_
  refine al_opd rfl rfl rfl (ao_calld (szRope_c (L := L) (v := v) (l := l) (k := 1048576) (ha.mono (by exact SMp)) hl (by omega)) Try.call5 rfl rfl) ?_
  refine al_opd rfl rfl rfl (ao_as (v := .int _ _) rfl) ?_
  refine al_nilT ?_
  refine aw_seq ?_
  refine aw_seq ?_
  refine aw_region ?_
  refine al_opd rfl rfl rfl (ao_mv (v := .int _ _) rfl) ?_
  refine al_opd rfl rfl rfl (ao_lss rfl rfl) ?_
  refine al_nilT ?_
  refine aw_cond rfl (fun h1_ => ?_) (fun h1_ => ?_)
  · try simp only [decide_eq_true_eq, decide_eq_false_iff_not, Bool.not_eq_true', Bool.not_eq_false', Bool.and_eq_true, Bool.or_eq_true, Bool.and_eq_false_iff, Bool.or_eq_false_iff, beq_iff_eq, bne_iff_ne, beq_eq_false_iff_ne, bne_eq_false_iff_eq, ne_eq, Decidable.not_not, Bool.decide_eq_true] at h1_
    refine aw_seq ?_
    refine aw_region ?_
    refine al_opd rfl rfl rfl (ao_as (v := .bool _) rfl) ?_
    refine al_nilT ?_
    refine aw_ret ?_
    refine thenA_r ?_
    refine ends1 rfl (rv_tmp (v := .bool _) rfl) ?_
    exact ⟨by first | rfl | (simp [*]; (first | done | fail)), by exact SMp⟩
  · try simp only [decide_eq_true_eq, decide_eq_false_iff_not, Bool.not_eq_true', Bool.not_eq_false', Bool.and_eq_true, Bool.or_eq_true, Bool.and_eq_false_iff, Bool.or_eq_false_iff, beq_iff_eq, bne_iff_ne, beq_eq_false_iff_ne, bne_eq_false_iff_eq, ne_eq, Decidable.not_not, Bool.decide_eq_true] at h1_
    have hl1 : l.length ≤ 1048576 := by omega
    refine aw_skipT ?_
    refine aw_seq ?_
    refine aw_region ?_
    refine al_opd rfl rfl rfl (ao_loada Try.isAgg25 Try.sizeOf25 rfl (by exact HLp) (by rfl) (by exact RFp)) ?_
    refine al_opd rfl rfl rfl (ao_calld (toRope_c (L := L) (v := v) (l := l) (ha.mono (by exact SMp)) (by omega)) Try.call7 rfl rfl) ?_
    refine al_opd rfl rfl rfl (ao_mv (v := .int _ _) rfl) ?_
    refine al_opd rfl rfl rfl (ao_calld (specCut4_c (L := L) (ks := l) (by exact HLp) (by omega) (by omega) hL hv hm) Try.call6 rfl rfl) ?_
    refine al_opd rfl rfl rfl (ao_mv (v := .tuple _) rfl) ?_
    refine al_opd rfl rfl rfl (ao_extract (v := .agg _) rfl rfl) ?_
    refine al_opd rfl rfl rfl (ao_extract (v := .agg _) rfl rfl) ?_
    refine al_opd rfl rfl rfl (ao_extract (v := .int _ _) rfl rfl) ?_
    refine al_opd rfl rfl rfl (ao_alloca (zv27) (by rfl)) ?_
    refine al_opd rfl rfl rfl (ao_alloca (zv27) (by rfl)) ?_
    first | refine al_opd rfl rfl rfl ((ao_storeL Try.sizeOf27 (by rfl) (by rfl) (by exact HLp) (by exact RFp) (by exact RFp) (by exact RFp)).to (SetR.eq (by exact SRp))) ?_ | refine al_opd rfl rfl rfl ((ao_storeP (ds := [.int _ _, .slice _ _ _]) Try.sizeOf27 (by rfl) (by rfl) (by exact HLp) (by exact RFp) (by exact RFp) (by exact LTp)).to (SetR.eq (by exact SRp))) ?_
    first | refine al_opd rfl rfl rfl ((ao_storeL Try.sizeOf27 (by rfl) (by rfl) (by exact HLp) (by exact RFp) (by exact RFp) (by exact RFp)).to (SetR.eq (by exact SRp))) ?_ | refine al_opd rfl rfl rfl ((ao_storeP (ds := [.int _ _, .slice _ _ _]) Try.sizeOf27 (by rfl) (by rfl) (by exact HLp) (by exact RFp) (by exact RFp) (by exact LTp)).to (SetR.eq (by exact SRp))) ?_
    refine al_opd rfl rfl rfl (ao_as (v := .int _ _) rfl) ?_
    refine al_nilT ?_
    refine aw_seq ?_
    refine aw_region ?_
    refine al_opd rfl rfl rfl (ao_loada Try.isAgg25 Try.sizeOf25 rfl (by exact HLp) (by rfl) (by exact RFp)) ?_
    refine al_opd rfl rfl rfl (ao_calld (toRope_c (L := L) (v := v) (l := l) (ha.mono (by exact SMp)) (by omega)) Try.call7 rfl rfl) ?_
    refine al_opd rfl rfl rfl (ao_alloca (zv27) (by rfl)) ?_
    first | refine al_opd rfl rfl rfl ((ao_storeL Try.sizeOf27 (by rfl) (by rfl) (by exact HLp) (by exact RFp) (by exact RFp) (by exact RFp)).to (SetR.eq (by exact SRp))) ?_ | refine al_opd rfl rfl rfl ((ao_storeP (ds := [.int _ _, .slice _ _ _]) Try.sizeOf27 (by rfl) (by rfl) (by exact HLp) (by exact RFp) (by exact RFp) (by exact LTp)).to (SetR.eq (by exact SRp))) ?_
    refine al_nilT ?_
    refine aw_seq ?_
    refine aw_region ?_
    refine al_opd rfl rfl rfl (ao_loada Try.isAgg27 Try.sizeOf27 rfl (by exact HLp) (by rfl) (by exact RFp)) ?_
    refine al_opd rfl rfl rfl (ao_mv (v := .int _ _) rfl) ?_
    refine al_opd rfl rfl rfl (ao_calld (implCut4_c (L := L) (ks := l) (by exact HLp) (by omega) (by omega) hL hv hm) Try.call8 rfl rfl) ?_
    refine al_opd rfl rfl rfl (ao_mv (v := .tuple _) rfl) ?_
    refine al_opd rfl rfl rfl (ao_extract (v := .agg _) rfl rfl) ?_
    refine al_opd rfl rfl rfl (ao_extract (v := .agg _) rfl rfl) ?_
    refine al_opd rfl rfl rfl (ao_extract (v := .int _ _) rfl rfl) ?_
    refine al_opd rfl rfl rfl (ao_alloca (zv27) (by rfl)) ?_
    refine al_opd rfl rfl rfl (ao_alloca (zv27) (by rfl)) ?_
    first | refine al_opd rfl rfl rfl ((ao_storeL Try.sizeOf27 (by rfl) (by rfl) (by exact HLp) (by exact RFp) (by exact RFp) (by exact RFp)).to (SetR.eq (by exact SRp))) ?_ | refine al_opd rfl rfl rfl ((ao_storeP (ds := [.int _ _, .slice _ _ _]) Try.sizeOf27 (by rfl) (by rfl) (by exact HLp) (by exact RFp) (by exact RFp) (by exact LTp)).to (SetR.eq (by exact SRp))) ?_
    first | refine al_opd rfl rfl rfl ((ao_storeL Try.sizeOf27 (by rfl) (by rfl) (by exact HLp) (by exact RFp) (by exact RFp) (by exact RFp)).to (SetR.eq (by exact SRp))) ?_ | refine al_opd rfl rfl rfl ((ao_storeP (ds := [.int _ _, .slice _ _ _]) Try.sizeOf27 (by rfl) (by rfl) (by exact HLp) (by exact RFp) (by exact RFp) (by exact LTp)).to (SetR.eq (by exact SRp))) ?_
    refine al_opd rfl rfl rfl (ao_as (v := .int _ _) rfl) ?_
    refine al_nilT ?_
    refine aw_seq ?_
    refine aw_seq ?_
    refine aw_region ?_
    refine al_opd rfl rfl rfl (ao_loada Try.isAgg27 Try.sizeOf27 rfl (by exact HLp) (by rfl) (by exact RFp)) ?_
    refine al_opd rfl rfl rfl (ao_loada Try.isAgg27 Try.sizeOf27 rfl (by exact HLp) (by rfl) (by exact RFp)) ?_
    refine al_opd rfl rfl rfl (ao_calld (eqRope_c (L := 0) (M := 0) (l := []) (m := []) Sl.nil Sl.nil (by simp)) Try.call9 rfl rfl) ?_
    refine al_opd rfl rfl rfl (ao_not rfl) ?_
    refine al_opd rfl rfl rfl (ao_mv (v := .bool _) rfl) ?_
    refine al_cases (d := 45) rfl (fun h2_ => ?_) (fun h2_ => ?_)
    · try simp only [decide_eq_true_eq, decide_eq_false_iff_not, Bool.not_eq_true', Bool.not_eq_false', Bool.and_eq_true, Bool.or_eq_true, Bool.and_eq_false_iff, Bool.or_eq_false_iff, beq_iff_eq, bne_iff_ne, beq_eq_false_iff_ne, bne_eq_false_iff_eq, ne_eq, Decidable.not_not, Bool.decide_eq_true] at h2_
      first | done | omega | (exfalso; revert h2_; simp; (first | done | omega))
    · try simp only [decide_eq_true_eq, decide_eq_false_iff_not, Bool.not_eq_true', Bool.not_eq_false', Bool.and_eq_true, Bool.or_eq_true, Bool.and_eq_false_iff, Bool.or_eq_false_iff, beq_iff_eq, bne_iff_ne, beq_eq_false_iff_ne, bne_eq_false_iff_eq, ne_eq, Decidable.not_not, Bool.decide_eq_true] at h2_
      refine al_gyes rfl rfl rfl rfl rfl (ao_loada Try.isAgg27 Try.sizeOf27 rfl (by exact HLp) (by rfl) (by exact RFp)) ?_
      refine al_gyes rfl rfl rfl rfl rfl (ao_loada Try.isAgg27 Try.sizeOf27 rfl (by exact HLp) (by rfl) (by exact RFp)) ?_
      refine al_gyes rfl rfl rfl rfl rfl (ao_calld (eqRope_c (L := 0) (M := 0) (l := []) (m := []) Sl.nil Sl.nil (by simp)) Try.call9 rfl rfl) ?_
      refine al_gyes rfl rfl rfl rfl rfl (ao_not rfl) ?_
      refine al_opd rfl rfl rfl (ao_pickF rfl (v := .bool _) rfl) ?_
      refine al_opd rfl rfl rfl (ao_mv (v := .bool _) rfl) ?_
      refine al_cases (d := 51) rfl (fun h3_ => ?_) (fun h3_ => ?_)
      · try simp only [decide_eq_true_eq, decide_eq_false_iff_not, Bool.not_eq_true', Bool.not_eq_false', Bool.and_eq_true, Bool.or_eq_true, Bool.and_eq_false_iff, Bool.or_eq_false_iff, beq_iff_eq, bne_iff_ne, beq_eq_false_iff_ne, bne_eq_false_iff_eq, ne_eq, Decidable.not_not, Bool.decide_eq_true] at h3_
        first | done | omega | (exfalso; revert h3_; simp; (first | done | omega))
      · try simp only [decide_eq_true_eq, decide_eq_false_iff_not, Bool.not_eq_true', Bool.not_eq_false', Bool.and_eq_true, Bool.or_eq_true, Bool.and_eq_false_iff, Bool.or_eq_false_iff, beq_iff_eq, bne_iff_ne, beq_eq_false_iff_ne, bne_eq_false_iff_eq, ne_eq, Decidable.not_not, Bool.decide_eq_true] at h3_
        refine al_gyes rfl rfl rfl rfl rfl (ao_mv (v := .int _ _) rfl) ?_
        refine al_gyes rfl rfl rfl rfl rfl (ao_mv (v := .int _ _) rfl) ?_
        refine al_gyes rfl rfl rfl rfl rfl (ao_neq rfl rfl) ?_
        refine al_opd rfl rfl rfl (ao_pickF rfl (v := .bool _) rfl) ?_
        refine al_nilT ?_
        refine aw_cond rfl (fun h4_ => ?_) (fun h4_ => ?_)
        · try simp only [decide_eq_true_eq, decide_eq_false_iff_not, Bool.not_eq_true', Bool.not_eq_false', Bool.and_eq_true, Bool.or_eq_true, Bool.and_eq_false_iff, Bool.or_eq_false_iff, beq_iff_eq, bne_iff_ne, beq_eq_false_iff_ne, bne_eq_false_iff_eq, ne_eq, Decidable.not_not, Bool.decide_eq_true] at h4_
          first | done | omega | (exfalso; revert h4_; simp; (first | done | omega))
        · try simp only [decide_eq_true_eq, decide_eq_false_iff_not, Bool.not_eq_true', Bool.not_eq_false', Bool.and_eq_true, Bool.or_eq_true, Bool.and_eq_false_iff, Bool.or_eq_false_iff, beq_iff_eq, bne_iff_ne, beq_eq_false_iff_ne, bne_eq_false_iff_eq, ne_eq, Decidable.not_not, Bool.decide_eq_true] at h4_
          refine aw_skipT ?_
          refine aw_seq ?_
          refine aw_seq ?_
          refine aw_draw (m := 5) mo (by kernel_rfl) rfl (fun _ _ _ h => h) ?_
          refine dw_opd rfl rfl rfl (ao_loada Try.isAgg27 Try.sizeOf27 rfl (by exact HLp) (by rfl) (by exact RFp)) ?_
          refine dw_opd rfl rfl rfl (ao_loada Try.isAgg25 Try.sizeOf25 rfl (by exact HLp) (by rfl) (by exact RFp)) ?_
          refine dw_opn rfl rfl rfl (ao_calld (toRope_c (L := L) (v := v) (l := l) (ha.mono (by exact SMp)) (by omega)) Try.call7 rfl rfl) ?_
          refine dw_opd rfl rfl rfl (ao_calld (eqRope_c (L := L) (M := L) (l := l) (m := l) (Sl.full i16_len (by exact HLp) rfl rfl rfl) (Sl.full i16_len (by exact HLp) rfl rfl rfl) (by omega)) Try.call9 rfl rfl) ?_
          refine dw_opd rfl rfl rfl (ao_not rfl) ?_
          refine dw_end ?_
          refine al_nilT ?_
          refine aw_cond rfl (fun h5_ => ?_) (fun h5_ => ?_)
          · try simp only [decide_eq_true_eq, decide_eq_false_iff_not, Bool.not_eq_true', Bool.not_eq_false', Bool.and_eq_true, Bool.or_eq_true, Bool.and_eq_false_iff, Bool.or_eq_false_iff, beq_iff_eq, bne_iff_ne, beq_eq_false_iff_ne, bne_eq_false_iff_eq, ne_eq, Decidable.not_not, Bool.decide_eq_true] at h5_
            first | done | omega | (exfalso; revert h5_; simp; (first | done | omega))
          · try simp only [decide_eq_true_eq, decide_eq_false_iff_not, Bool.not_eq_true', Bool.not_eq_false', Bool.and_eq_true, Bool.or_eq_true, Bool.and_eq_false_iff, Bool.or_eq_false_iff, beq_iff_eq, bne_iff_ne, beq_eq_false_iff_ne, bne_eq_false_iff_eq, ne_eq, Decidable.not_not, Bool.decide_eq_true] at h5_
            refine aw_skipT ?_
            refine aw_seq ?_
            refine aw_region ?_
            refine al_opd rfl rfl rfl (ao_as (v := .int _ _) rfl) ?_
            refine al_nilT ?_
            refine aw_seq ?_
            refine aw_region ?_
            refine al_opd rfl rfl rfl (ao_loada Try.isAgg27 Try.sizeOf27 rfl (by exact HLp) (by rfl) (by exact RFp)) ?_
            refine al_opd rfl rfl rfl (ao_mv (v := .int _ _) rfl) ?_
            refine al_opd rfl rfl rfl ((ao_calld (markRope_c (L := L) (l := l) (k := 1) (by exact HLp) (by omega) (by omega)) Try.call10 rfl rfl).to (SetR.eq (by exact SRp))) ?_
            refine al_opd rfl rfl rfl (ao_as (v := .int _ _) rfl) ?_
            refine al_nilT ?_
            refine aw_seq ?_
            refine aw_seq ?_
            refine aw_region ?_
            refine al_opd rfl rfl rfl (ao_mv (v := .int _ _) rfl) ?_
            refine al_opd rfl rfl rfl (ao_lss rfl rfl) ?_
            refine al_opd rfl rfl rfl (ao_mv (v := .bool _) rfl) ?_
            refine al_cases (d := 66) rfl (fun h6_ => ?_) (fun h6_ => ?_)
            · try simp only [decide_eq_true_eq, decide_eq_false_iff_not, Bool.not_eq_true', Bool.not_eq_false', Bool.and_eq_true, Bool.or_eq_true, Bool.and_eq_false_iff, Bool.or_eq_false_iff, beq_iff_eq, bne_iff_ne, beq_eq_false_iff_ne, bne_eq_false_iff_eq, ne_eq, Decidable.not_not, Bool.decide_eq_true] at h6_
              first | done | omega | (exfalso; revert h6_; simp; (first | done | omega))
            · try simp only [decide_eq_true_eq, decide_eq_false_iff_not, Bool.not_eq_true', Bool.not_eq_false', Bool.and_eq_true, Bool.or_eq_true, Bool.and_eq_false_iff, Bool.or_eq_false_iff, beq_iff_eq, bne_iff_ne, beq_eq_false_iff_ne, bne_eq_false_iff_eq, ne_eq, Decidable.not_not, Bool.decide_eq_true] at h6_
              refine al_gyes rfl rfl rfl rfl rfl (ao_loada Try.isAgg27 Try.sizeOf27 rfl (by exact HLp) (by rfl) (by exact RFp)) ?_
              refine al_gyes rfl rfl rfl rfl rfl (ao_loada Try.isAgg27 Try.sizeOf27 rfl (by exact HLp) (by rfl) (by exact RFp)) ?_
              refine al_gyes rfl rfl rfl rfl rfl (ao_calld (eqRope_c (L := 0) (M := 0) (l := []) (m := []) Sl.nil Sl.nil (by simp)) Try.call9 rfl rfl) ?_
              refine al_gyes rfl rfl rfl rfl rfl (ao_not rfl) ?_
              refine al_opd rfl rfl rfl (ao_pickF rfl (v := .bool _) rfl) ?_
              refine al_opd rfl rfl rfl (ao_mv (v := .bool _) rfl) ?_
              refine al_cases (d := 72) rfl (fun h7_ => ?_) (fun h7_ => ?_)
              · try simp only [decide_eq_true_eq, decide_eq_false_iff_not, Bool.not_eq_true', Bool.not_eq_false', Bool.and_eq_true, Bool.or_eq_true, Bool.and_eq_false_iff, Bool.or_eq_false_iff, beq_iff_eq, bne_iff_ne, beq_eq_false_iff_ne, bne_eq_false_iff_eq, ne_eq, Decidable.not_not, Bool.decide_eq_true] at h7_
                first | done | omega | (exfalso; revert h7_; simp; (first | done | omega))
              · try simp only [decide_eq_true_eq, decide_eq_false_iff_not, Bool.not_eq_true', Bool.not_eq_false', Bool.and_eq_true, Bool.or_eq_true, Bool.and_eq_false_iff, Bool.or_eq_false_iff, beq_iff_eq, bne_iff_ne, beq_eq_false_iff_ne, bne_eq_false_iff_eq, ne_eq, Decidable.not_not, Bool.decide_eq_true] at h7_
                refine al_gyes rfl rfl rfl rfl rfl (ao_loada Try.isAgg27 Try.sizeOf27 rfl (by exact HLp) (by rfl) (by exact RFp)) ?_
                refine al_gyes rfl rfl rfl rfl rfl (ao_loada Try.isAgg27 Try.sizeOf27 rfl (by exact HLp) (by rfl) (by exact RFp)) ?_
                refine al_gyes rfl rfl rfl rfl rfl (ao_calld (eqRope_c (L := 0) (M := 0) (l := []) (m := []) Sl.nil Sl.nil (by simp)) Try.call9 rfl rfl) ?_
                refine al_gyes rfl rfl rfl rfl rfl (ao_not rfl) ?_
                refine al_opd rfl rfl rfl (ao_pickF rfl (v := .bool _) rfl) ?_
                refine al_opd rfl rfl rfl (ao_mv (v := .bool _) rfl) ?_
                refine al_cases (d := 78) rfl (fun h8_ => ?_) (fun h8_ => ?_)
                · try simp only [decide_eq_true_eq, decide_eq_false_iff_not, Bool.not_eq_true', Bool.not_eq_false', Bool.and_eq_true, Bool.or_eq_true, Bool.and_eq_false_iff, Bool.or_eq_false_iff, beq_iff_eq, bne_iff_ne, beq_eq_false_iff_ne, bne_eq_false_iff_eq, ne_eq, Decidable.not_not, Bool.decide_eq_true] at h8_
                  first | done | omega | (exfalso; revert h8_; simp; (first | done | omega))
                · try simp only [decide_eq_true_eq, decide_eq_false_iff_not, Bool.not_eq_true', Bool.not_eq_false', Bool.and_eq_true, Bool.or_eq_true, Bool.and_eq_false_iff, Bool.or_eq_false_iff, beq_iff_eq, bne_iff_ne, beq_eq_false_iff_ne, bne_eq_false_iff_eq, ne_eq, Decidable.not_not, Bool.decide_eq_true] at h8_
                  refine al_gyes rfl rfl rfl rfl rfl (ao_mv (v := .int _ _) rfl) ?_
                  refine al_gyes rfl rfl rfl rfl rfl (ao_mv (v := .int _ _) rfl) ?_
                  refine al_gyes rfl rfl rfl rfl rfl (ao_neq rfl rfl) ?_
                  refine al_opd rfl rfl rfl (ao_pickF rfl (v := .bool _) rfl) ?_
                  refine al_nilT ?_
                  refine aw_cond rfl (fun h9_ => ?_) (fun h9_ => ?_)
                  · try simp only [decide_eq_true_eq, decide_eq_false_iff_not, Bool.not_eq_true', Bool.not_eq_false', Bool.and_eq_true, Bool.or_eq_true, Bool.and_eq_false_iff, Bool.or_eq_false_iff, beq_iff_eq, bne_iff_ne, beq_eq_false_iff_ne, bne_eq_false_iff_eq, ne_eq, Decidable.not_not, Bool.decide_eq_true] at h9_
                    first | done | omega | (exfalso; revert h9_; simp; (first | done | omega))
                  · try simp only [decide_eq_true_eq, decide_eq_false_iff_not, Bool.not_eq_true', Bool.not_eq_false', Bool.and_eq_true, Bool.or_eq_true, Bool.and_eq_false_iff, Bool.or_eq_false_iff, beq_iff_eq, bne_iff_ne, beq_eq_false_iff_ne, bne_eq_false_iff_eq, ne_eq, Decidable.not_not, Bool.decide_eq_true] at h9_
                    refine aw_skipT ?_
                    refine aw_seq ?_
                    refine aw_region ?_
                    refine al_opd rfl rfl rfl (ao_as (v := .int _ _) rfl) ?_
                    refine al_nilT ?_
                    refine aw_seq ?_
                    refine aw_region ?_
                    refine al_opd rfl rfl rfl (ao_loada Try.isAgg27 Try.sizeOf27 rfl (by exact HLp) (by rfl) (by exact RFp)) ?_
                    refine al_opd rfl rfl rfl (ao_mv (v := .int _ _) rfl) ?_
                    refine al_opd rfl rfl rfl (ao_calld (markRope0_c (L := 0) (k := 1)) Try.call10 rfl rfl) ?_
                    refine al_opd rfl rfl rfl (ao_as (v := .int _ _) rfl) ?_
                    refine al_nilT ?_
                    refine aw_seq ?_
                    refine aw_region ?_
                    refine al_opd rfl rfl rfl (ao_loada Try.isAgg27 Try.sizeOf27 rfl (by exact HLp) (by rfl) (by exact RFp)) ?_
                    refine al_opd rfl rfl rfl (ao_mv (v := .int _ _) rfl) ?_
                    refine al_opd rfl rfl rfl (ao_calld (markRope0_c (L := 0) (k := 1)) Try.call10 rfl rfl) ?_
                    refine al_opd rfl rfl rfl (ao_as (v := .int _ _) rfl) ?_
                    refine al_nilT ?_
                    refine aw_seq ?_
                    refine aw_region ?_
                    refine al_opd rfl rfl rfl (ao_as (v := .int _ _) rfl) ?_
                    refine al_nilT ?_
                    refine aw_seq ?_
                    refine aw_region ?_
                    refine al_opd rfl rfl rfl (ao_loada Try.isAgg27 Try.sizeOf27 rfl (by exact HLp) (by rfl) (by exact RFp)) ?_
                    refine al_opd rfl rfl rfl (ao_mv (v := .int _ _) rfl) ?_
                    refine al_opd rfl rfl rfl (ao_calld (heldRope_c (L := 0) (n := 0) (k := 1) Sl.nil (by omega) (by omega)) Try.call11 rfl rfl) ?_
                    refine al_opd rfl rfl rfl (ao_as (v := .int _ _) rfl) ?_
                    refine al_nilT ?_
                    refine aw_seq ?_
                    refine aw_seq ?_
                    refine aw_region ?_
                    refine al_opd rfl rfl rfl (ao_mv (v := .int _ _) rfl) ?_
                    refine al_opd rfl rfl rfl (ao_lss rfl rfl) ?_
                    refine al_nilT ?_
                    refine aw_cond rfl (fun h10_ => ?_) (fun h10_ => ?_)
                    · try simp only [decide_eq_true_eq, decide_eq_false_iff_not, Bool.not_eq_true', Bool.not_eq_false', Bool.and_eq_true, Bool.or_eq_true, Bool.and_eq_false_iff, Bool.or_eq_false_iff, beq_iff_eq, bne_iff_ne, beq_eq_false_iff_ne, bne_eq_false_iff_eq, ne_eq, Decidable.not_not, Bool.decide_eq_true] at h10_
                      first | done | omega | (exfalso; revert h10_; simp; (first | done | omega))
                    · try simp only [decide_eq_true_eq, decide_eq_false_iff_not, Bool.not_eq_true', Bool.not_eq_false', Bool.and_eq_true, Bool.or_eq_true, Bool.and_eq_false_iff, Bool.or_eq_false_iff, beq_iff_eq, bne_iff_ne, beq_eq_false_iff_ne, bne_eq_false_iff_eq, ne_eq, Decidable.not_not, Bool.decide_eq_true] at h10_
                      refine aw_skipT ?_
                      refine aw_seq ?_
                      refine aw_region ?_
                      refine al_opd rfl rfl rfl (ao_loada Try.isAgg27 Try.sizeOf27 rfl (by exact HLp) (by rfl) (by exact RFp)) ?_
                      refine al_opd rfl rfl rfl (ao_mv (v := .int _ _) rfl) ?_
                      refine al_opd rfl rfl rfl (ao_calld (heldRope_c (L := 0) (n := 0) (k := 1) Sl.nil (by omega) (by omega)) Try.call11 rfl rfl) ?_
                      refine al_opd rfl rfl rfl (ao_as (v := .int _ _) rfl) ?_
                      refine al_nilT ?_
                      refine aw_seq ?_
                      refine aw_seq ?_
                      refine aw_region ?_
                      refine al_opd rfl rfl rfl (ao_mv (v := .int _ _) rfl) ?_
                      refine al_opd rfl rfl rfl (ao_lss rfl rfl) ?_
                      refine al_nilT ?_
                      refine aw_cond rfl (fun h11_ => ?_) (fun h11_ => ?_)
                      · try simp only [decide_eq_true_eq, decide_eq_false_iff_not, Bool.not_eq_true', Bool.not_eq_false', Bool.and_eq_true, Bool.or_eq_true, Bool.and_eq_false_iff, Bool.or_eq_false_iff, beq_iff_eq, bne_iff_ne, beq_eq_false_iff_ne, bne_eq_false_iff_eq, ne_eq, Decidable.not_not, Bool.decide_eq_true] at h11_
                        first | done | omega | (exfalso; revert h11_; simp; (first | done | omega))
                      · try simp only [decide_eq_true_eq, decide_eq_false_iff_not, Bool.not_eq_true', Bool.not_eq_false', Bool.and_eq_true, Bool.or_eq_true, Bool.and_eq_false_iff, Bool.or_eq_false_iff, beq_iff_eq, bne_iff_ne, beq_eq_false_iff_ne, bne_eq_false_iff_eq, ne_eq, Decidable.not_not, Bool.decide_eq_true] at h11_
                        refine aw_skipT ?_
                        refine aw_seq ?_
                        refine aw_seq ?_
                        refine aw_region ?_
                        refine al_opd rfl rfl rfl (ao_mv (v := .int _ _) rfl) ?_
                        refine al_opd rfl rfl rfl (ao_mv (v := .int _ _) rfl) ?_
                        refine al_opd rfl rfl rfl (ao_neq rfl rfl) ?_
                        refine al_nilT ?_
                        refine aw_cond rfl (fun h12_ => ?_) (fun h12_ => ?_)
                        · try simp only [decide_eq_true_eq, decide_eq_false_iff_not, Bool.not_eq_true', Bool.not_eq_false', Bool.and_eq_true, Bool.or_eq_true, Bool.and_eq_false_iff, Bool.or_eq_false_iff, beq_iff_eq, bne_iff_ne, beq_eq_false_iff_ne, bne_eq_false_iff_eq, ne_eq, Decidable.not_not, Bool.decide_eq_true] at h12_
                          first | done | omega | (exfalso; revert h12_; simp; (first | done | omega))
                        · try simp only [decide_eq_true_eq, decide_eq_false_iff_not, Bool.not_eq_true', Bool.not_eq_false', Bool.and_eq_true, Bool.or_eq_true, Bool.and_eq_false_iff, Bool.or_eq_false_iff, beq_iff_eq, bne_iff_ne, beq_eq_false_iff_ne, bne_eq_false_iff_eq, ne_eq, Decidable.not_not, Bool.decide_eq_true] at h12_
                          refine aw_skipT ?_
                          refine aw_seq ?_
                          refine aw_region ?_
                          refine al_opd rfl rfl rfl (ao_loada Try.isAgg25 Try.sizeOf25 rfl (by exact HLp) (by rfl) (by exact RFp)) ?_
                          refine al_opd rfl rfl rfl (ao_calld (toRope_c (L := L) (v := v) (l := l) (ha.mono (by exact SMp)) (by omega)) Try.call7 rfl rfl) ?_
                          refine al_opd rfl rfl rfl (ao_mv (v := .int _ _) rfl) ?_
                          refine al_opd rfl rfl rfl (ao_calld (implCut4_c (L := L) (ks := l) (by exact HLp) (by omega) (by omega) hL hv hm) Try.call8 rfl rfl) ?_
                          refine al_opd rfl rfl rfl (ao_mv (v := .tuple _) rfl) ?_
                          refine al_opd rfl rfl rfl (ao_extract (v := .agg _) rfl rfl) ?_
                          refine al_opd rfl rfl rfl (ao_extract (v := .agg _) rfl rfl) ?_
                          refine al_opd rfl rfl rfl (ao_extract (v := .int _ _) rfl rfl) ?_
                          refine al_opd rfl rfl rfl (ao_alloca (zv27) (by rfl)) ?_
                          refine al_opd rfl rfl rfl (ao_alloca (zv27) (by rfl)) ?_
                          first | refine al_opd rfl rfl rfl ((ao_storeL Try.sizeOf27 (by rfl) (by rfl) (by exact HLp) (by exact RFp) (by exact RFp) (by exact RFp)).to (SetR.eq (by exact SRp))) ?_ | refine al_opd rfl rfl rfl ((ao_storeP (ds := [.int _ _, .slice _ _ _]) Try.sizeOf27 (by rfl) (by rfl) (by exact HLp) (by exact RFp) (by exact RFp) (by exact LTp)).to (SetR.eq (by exact SRp))) ?_
                          first | refine al_opd rfl rfl rfl ((ao_storeL Try.sizeOf27 (by rfl) (by rfl) (by exact HLp) (by exact RFp) (by exact RFp) (by exact RFp)).to (SetR.eq (by exact SRp))) ?_ | refine al_opd rfl rfl rfl ((ao_storeP (ds := [.int _ _, .slice _ _ _]) Try.sizeOf27 (by rfl) (by rfl) (by exact HLp) (by exact RFp) (by exact RFp) (by exact LTp)).to (SetR.eq (by exact SRp))) ?_
                          refine al_opd rfl rfl rfl (ao_as (v := .int _ _) rfl) ?_
                          refine al_nilT ?_
                          refine aw_seq ?_
                          refine aw_seq ?_
                          refine aw_region ?_
                          refine al_opd rfl rfl rfl (ao_loada Try.isAgg27 Try.sizeOf27 rfl (by exact HLp) (by rfl) (by exact RFp)) ?_
                          refine al_opd rfl rfl rfl (ao_loada Try.isAgg27 Try.sizeOf27 rfl (by exact HLp) (by rfl) (by exact RFp)) ?_
                          refine al_opd rfl rfl rfl (ao_calld (eqRope_c (L := 0) (M := 0) (l := []) (m := []) Sl.nil Sl.nil (by simp)) Try.call9 rfl rfl) ?_
                          refine al_opd rfl rfl rfl (ao_not rfl) ?_
                          refine al_opd rfl rfl rfl (ao_mv (v := .bool _) rfl) ?_
                          refine al_cases (d := 114) rfl (fun h13_ => ?_) (fun h13_ => ?_)
                          · try simp only [decide_eq_true_eq, decide_eq_false_iff_not, Bool.not_eq_true', Bool.not_eq_false', Bool.and_eq_true, Bool.or_eq_true, Bool.and_eq_false_iff, Bool.or_eq_false_iff, beq_iff_eq, bne_iff_ne, beq_eq_false_iff_ne, bne_eq_false_iff_eq, ne_eq, Decidable.not_not, Bool.decide_eq_true] at h13_
                            first | done | omega | (exfalso; revert h13_; simp; (first | done | omega))
                          · try simp only [decide_eq_true_eq, decide_eq_false_iff_not, Bool.not_eq_true', Bool.not_eq_false', Bool.and_eq_true, Bool.or_eq_true, Bool.and_eq_false_iff, Bool.or_eq_false_iff, beq_iff_eq, bne_iff_ne, beq_eq_false_iff_ne, bne_eq_false_iff_eq, ne_eq, Decidable.not_not, Bool.decide_eq_true] at h13_
                            refine al_gyes rfl rfl rfl rfl rfl (ao_loada Try.isAgg27 Try.sizeOf27 rfl (by exact HLp) (by rfl) (by exact RFp)) ?_
                            refine al_gyes rfl rfl rfl rfl rfl (ao_loada Try.isAgg27 Try.sizeOf27 rfl (by exact HLp) (by rfl) (by exact RFp)) ?_
                            refine al_gyes rfl rfl rfl rfl rfl (ao_calld (eqRope_c (L := 0) (M := 0) (l := []) (m := []) Sl.nil Sl.nil (by simp)) Try.call9 rfl rfl) ?_
                            refine al_gyes rfl rfl rfl rfl rfl (ao_not rfl) ?_
                            refine al_opd rfl rfl rfl (ao_pickF rfl (v := .bool _) rfl) ?_
                            refine al_opd rfl rfl rfl (ao_mv (v := .bool _) rfl) ?_
                            refine al_cases (d := 120) rfl (fun h14_ => ?_) (fun h14_ => ?_)
                            · try simp only [decide_eq_true_eq, decide_eq_false_iff_not, Bool.not_eq_true', Bool.not_eq_false', Bool.and_eq_true, Bool.or_eq_true, Bool.and_eq_false_iff, Bool.or_eq_false_iff, beq_iff_eq, bne_iff_ne, beq_eq_false_iff_ne, bne_eq_false_iff_eq, ne_eq, Decidable.not_not, Bool.decide_eq_true] at h14_
                              first | done | omega | (exfalso; revert h14_; simp; (first | done | omega))
                            · try simp only [decide_eq_true_eq, decide_eq_false_iff_not, Bool.not_eq_true', Bool.not_eq_false', Bool.and_eq_true, Bool.or_eq_true, Bool.and_eq_false_iff, Bool.or_eq_false_iff, beq_iff_eq, bne_iff_ne, beq_eq_false_iff_ne, bne_eq_false_iff_eq, ne_eq, Decidable.not_not, Bool.decide_eq_true] at h14_
                              refine al_gyes rfl rfl rfl rfl rfl (ao_mv (v := .int _ _) rfl) ?_
                              refine al_gyes rfl rfl rfl rfl rfl (ao_mv (v := .int _ _) rfl) ?_
                              refine al_gyes rfl rfl rfl rfl rfl (ao_neq rfl rfl) ?_
                              refine al_opd rfl rfl rfl (ao_pickF rfl (v := .bool _) rfl) ?_
                              refine al_nilT ?_
                              refine aw_cond rfl (fun h15_ => ?_) (fun h15_ => ?_)
                              · try simp only [decide_eq_true_eq, decide_eq_false_iff_not, Bool.not_eq_true', Bool.not_eq_false', Bool.and_eq_true, Bool.or_eq_true, Bool.and_eq_false_iff, Bool.or_eq_false_iff, beq_iff_eq, bne_iff_ne, beq_eq_false_iff_ne, bne_eq_false_iff_eq, ne_eq, Decidable.not_not, Bool.decide_eq_true] at h15_
                                first | done | omega | (exfalso; revert h15_; simp; (first | done | omega))
                              · try simp only [decide_eq_true_eq, decide_eq_false_iff_not, Bool.not_eq_true', Bool.not_eq_false', Bool.and_eq_true, Bool.or_eq_true, Bool.and_eq_false_iff, Bool.or_eq_false_iff, beq_iff_eq, bne_iff_ne, beq_eq_false_iff_ne, bne_eq_false_iff_eq, ne_eq, Decidable.not_not, Bool.decide_eq_true] at h15_
                                refine aw_skipT ?_
                                refine aw_seq ?_
                                refine aw_region ?_
                                refine al_opd rfl rfl rfl (ao_as (v := .int _ _) rfl) ?_
                                refine al_nilT ?_
                                refine aw_seq ?_
                                refine aw_region ?_
                                refine al_opd rfl rfl rfl (ao_loada Try.isAgg27 Try.sizeOf27 rfl (by exact HLp) (by rfl) (by exact RFp)) ?_
                                refine al_opd rfl rfl rfl (ao_mv (v := .int _ _) rfl) ?_
                                refine al_opd rfl rfl rfl (ao_calld (heldRope_c (L := 0) (n := 0) (k := 1) Sl.nil (by omega) (by omega)) Try.call11 rfl rfl) ?_
                                refine al_opd rfl rfl rfl (ao_as (v := .int _ _) rfl) ?_
                                refine al_nilT ?_
                                refine aw_seq ?_
                                refine aw_seq ?_
                                refine aw_region ?_
                                refine al_opd rfl rfl rfl (ao_mv (v := .int _ _) rfl) ?_
                                refine al_opd rfl rfl rfl (ao_lss rfl rfl) ?_
                                refine al_nilT ?_
                                refine aw_cond rfl (fun h16_ => ?_) (fun h16_ => ?_)
                                · try simp only [decide_eq_true_eq, decide_eq_false_iff_not, Bool.not_eq_true', Bool.not_eq_false', Bool.and_eq_true, Bool.or_eq_true, Bool.and_eq_false_iff, Bool.or_eq_false_iff, beq_iff_eq, bne_iff_ne, beq_eq_false_iff_ne, bne_eq_false_iff_eq, ne_eq, Decidable.not_not, Bool.decide_eq_true] at h16_
                                  first | done | omega | (exfalso; revert h16_; simp; (first | done | omega))
                                · try simp only [decide_eq_true_eq, decide_eq_false_iff_not, Bool.not_eq_true', Bool.not_eq_false', Bool.and_eq_true, Bool.or_eq_true, Bool.and_eq_false_iff, Bool.or_eq_false_iff, beq_iff_eq, bne_iff_ne, beq_eq_false_iff_ne, bne_eq_false_iff_eq, ne_eq, Decidable.not_not, Bool.decide_eq_true] at h16_
                                  refine aw_skipT ?_
                                  refine aw_seq ?_
                                  refine aw_region ?_
                                  refine al_opd rfl rfl rfl (ao_loada Try.isAgg27 Try.sizeOf27 rfl (by exact HLp) (by rfl) (by exact RFp)) ?_
                                  refine al_opd rfl rfl rfl (ao_mv (v := .int _ _) rfl) ?_
                                  refine al_opd rfl rfl rfl (ao_calld (heldRope_c (L := 0) (n := 0) (k := 1) Sl.nil (by omega) (by omega)) Try.call11 rfl rfl) ?_
                                  refine al_opd rfl rfl rfl (ao_as (v := .int _ _) rfl) ?_
                                  refine al_nilT ?_
                                  refine aw_seq ?_
                                  refine aw_seq ?_
                                  refine aw_region ?_
                                  refine al_opd rfl rfl rfl (ao_mv (v := .int _ _) rfl) ?_
                                  refine al_opd rfl rfl rfl (ao_lss rfl rfl) ?_
                                  refine al_nilT ?_
                                  refine aw_cond rfl (fun h17_ => ?_) (fun h17_ => ?_)
                                  · try simp only [decide_eq_true_eq, decide_eq_false_iff_not, Bool.not_eq_true', Bool.not_eq_false', Bool.and_eq_true, Bool.or_eq_true, Bool.and_eq_false_iff, Bool.or_eq_false_iff, beq_iff_eq, bne_iff_ne, beq_eq_false_iff_ne, bne_eq_false_iff_eq, ne_eq, Decidable.not_not, Bool.decide_eq_true] at h17_
                                    first | done | omega | (exfalso; revert h17_; simp; (first | done | omega))
                                  · try simp only [decide_eq_true_eq, decide_eq_false_iff_not, Bool.not_eq_true', Bool.not_eq_false', Bool.and_eq_true, Bool.or_eq_true, Bool.and_eq_false_iff, Bool.or_eq_false_iff, beq_iff_eq, bne_iff_ne, beq_eq_false_iff_ne, bne_eq_false_iff_eq, ne_eq, Decidable.not_not, Bool.decide_eq_true] at h17_
                                    refine aw_skipT ?_
                                    refine aw_seq ?_
                                    refine aw_seq ?_
                                    refine aw_region ?_
                                    refine al_opd rfl rfl rfl (ao_mv (v := .int _ _) rfl) ?_
                                    refine al_opd rfl rfl rfl (ao_mv (v := .int _ _) rfl) ?_
                                    refine al_opd rfl rfl rfl (ao_neq rfl rfl) ?_
                                    refine al_nilT ?_
                                    refine aw_cond rfl (fun h18_ => ?_) (fun h18_ => ?_)
                                    · try simp only [decide_eq_true_eq, decide_eq_false_iff_not, Bool.not_eq_true', Bool.not_eq_false', Bool.and_eq_true, Bool.or_eq_true, Bool.and_eq_false_iff, Bool.or_eq_false_iff, beq_iff_eq, bne_iff_ne, beq_eq_false_iff_ne, bne_eq_false_iff_eq, ne_eq, Decidable.not_not, Bool.decide_eq_true] at h18_
                                      first | done | omega | (exfalso; revert h18_; simp; (first | done | omega))
                                    · try simp only [decide_eq_true_eq, decide_eq_false_iff_not, Bool.not_eq_true', Bool.not_eq_false', Bool.and_eq_true, Bool.or_eq_true, Bool.and_eq_false_iff, Bool.or_eq_false_iff, beq_iff_eq, bne_iff_ne, beq_eq_false_iff_ne, bne_eq_false_iff_eq, ne_eq, Decidable.not_not, Bool.decide_eq_true] at h18_
                                      refine aw_skipT ?_
                                      refine aw_seq ?_
                                      refine aw_region ?_
                                      refine al_opd rfl rfl rfl (ao_as (v := .bool _) rfl) ?_
                                      refine al_nilT ?_
                                      refine aw_ret ?_
                                      refine ends1 rfl (rv_tmp (v := .bool _) rfl) ?_
                                      exact ⟨by first | rfl | (simp [*]; (first | done | fail)), by exact SMp⟩

theorem lawCut_c {L m : Int} {v : Value} {l : List Int} {H : AHeap} (ha : Sl H i16 1 v l) (hl : l.length ≤ 9223372036854775807) (hL : -32768 ≤ L ∧ L ≤ 32767) : ACd Try.prog 3 [.agg #[.int .i16 L, v], .int .i64 m] H (.bool true) H := by
  by_cases hv : okRope L l
  · by_cases hm : 0 ≤ m ∧ m ≤ (l.length : Int) - 1
    · by_cases he : m = 0 ∨ m = (l.length : Int) - 1
      · exact lawCut4_c ha hl hL hv he
      · obtain ⟨k, rfl⟩ := Int.eq_ofNat_of_zero_le hm.1
        obtain ⟨x, hx⟩ := get_lt (show k < l.length by omega)
        exact lawCut0_c ha hl hL hv (by omega) (by omega) hx
    · exact lawCut2_c ha hl hL hv hm
  · exact lawCut1_c ha hl hL hv

end Go.Proofs.Ytdcmjbaahcipoaa
