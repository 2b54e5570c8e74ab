/- Contracts of the program's functions over abstract heaps. -/
import Derived.Test.YtdcmjbaahcipoaaLaws
namespace Go.Proofs.Ytdcmjbaahcipoaa
open Go Go.AW Go.Proofs
set_option linter.unusedVariables false
set_option linter.unusedSimpArgs false
set_option maxRecDepth 100000
set_option maxHeartbeats 2000000

-- spec.l03Ok
theorem l03Ok_c {L : Int} {v : Value} {ks : List Int} {b : Bool} {pb : Nat} {H : AHeap} (ha : Sl H i16 1 v ks) (hlen : ks.length ≤ 4194304) (hp : H.blk pb = some (.cells [.int .i16 L, v] 1)) (hL : -32768 ≤ L ∧ L ≤ 32767) (hb : b = true ↔ okRope L ks) : ACd Try.prog 20 [.pointer (some ⟨pb, 0, none⟩)] H (.bool b) (H) := by
  refine ac_gc0 (fun β => VR.plainT β (by first | rfl | simp [plainT, plainV, plain1])) (ac_body Try.func20 rfl Try.ntmps20 rfl ?_)
  refine aw_seq ?_
  refine aw_region ?_
  refine al_opd rfl rfl rfl (ao_as (v := .bool _) rfl) ?_
  refine al_nilT ?_
  refine aw_seq ?_
  refine aw_region ?_
  refine al_opd rfl rfl rfl (ao_mv (v := .pointer _) rfl) ?_
  refine al_opd rfl rfl rfl (ao_nilCheck rfl) ?_
  refine al_opd rfl rfl rfl (ao_fieldAddr fo_27_1 rfl) ?_
  first | refine al_opd rfl rfl rfl (ao_load (v := .slice _ _ _) Try.isAgg23 (by rfl) (by exact HLp) (by rfl) (by exact RFp)) ?_ | refine al_opd rfl rfl rfl (ao_load (v := v) Try.isAgg23 (by rfl) (by exact HLp) (by rfl) (by exact RFp)) ?_ | refine al_opd rfl rfl rfl (ao_loadV (j := 0) (u := .slice _ _ _) Try.isAgg23 ha rfl rfl (by assumption) rfl) ?_ | refine al_opd rfl rfl rfl (ao_loadV (j := 1) (u := .slice _ _ _) Try.isAgg23 ha rfl rfl (by assumption) rfl) ?_ | refine al_opd rfl rfl rfl (ao_loadV (i := 0) (j := 0) (u := .slice _ _ _) Try.isAgg23 ha rfl rfl (by assumption) rfl) ?_ | refine al_opd rfl rfl rfl (ao_loadV (i := 0) (j := 1) (u := .slice _ _ _) Try.isAgg23 ha rfl rfl (by assumption) rfl) ?_
  first | refine al_opd rfl rfl rfl (ao_lenS Try.underlying23 (by rfl)) ?_ | refine al_opd rfl rfl rfl (ao_lenN Try.underlying23 (by rfl)) ?_ | refine al_opd rfl rfl rfl (ao_lenV Try.underlying23 rfl ha) ?_
  refine al_opd rfl rfl rfl (ao_as (v := .int _ _) rfl) ?_
  refine al_nilT ?_
  refine aw_seq ?_
  refine aw_seq ?_
  refine aw_draw (m := 39) mo (by kernel_rfl) rfl (fun _ _ _ h => h) ?_
  refine dw_opd rfl rfl rfl (ao_mv (v := .pointer _) rfl) ?_
  refine dw_opd rfl rfl rfl (ao_nilCheck rfl) ?_
  refine dw_opd rfl rfl rfl (ao_fieldAddr fo_27_0 rfl) ?_
  first | refine dw_opd rfl rfl rfl (ao_load (v := .int _ _) Try.isAgg22 (by rfl) (by exact HLp) (by rfl) (by exact RFp)) ?_ | refine dw_opd rfl rfl rfl (ao_loadV (j := 0) (u := .int _ _) Try.isAgg22 ha rfl rfl (by assumption) rfl) ?_ | refine dw_opd rfl rfl rfl (ao_loadV (j := 1) (u := .int _ _) Try.isAgg22 ha rfl rfl (by assumption) rfl) ?_ | refine dw_opd rfl rfl rfl (ao_loadV (i := 0) (j := 0) (u := .int _ _) Try.isAgg22 ha rfl rfl (by assumption) rfl) ?_ | refine dw_opd rfl rfl rfl (ao_loadV (i := 0) (j := 1) (u := .int _ _) Try.isAgg22 ha rfl rfl (by assumption) rfl) ?_
  first | refine dw_opd rfl rfl rfl ((ao_conv ⟨_, Try.underlying22⟩ Try.underlying2 rfl).val (nw_i64 BDp BDp)) ?_ | refine dw_opd rfl rfl rfl (ao_conv ⟨_, Try.underlying22⟩ Try.underlying2 rfl) ?_
  refine dw_opd rfl rfl rfl (ao_calld (l00In_c) Try.call21 rfl rfl) ?_
  refine dw_opd rfl rfl rfl (ao_not rfl) ?_
  refine dw_opd rfl rfl rfl (ao_mv (v := .bool _) rfl) ?_
  refine dw_cases (d := 17) rfl (fun h1_ => ?_) (fun h1_ => ?_)
  · try simp only [nrm] at h1_
    refine dw_gno rfl rfl rfl rfl rfl rfl ?_
    refine dw_gno rfl rfl rfl rfl rfl rfl ?_
    refine dw_opd rfl rfl rfl (ao_pickT rfl (v := .bool _) rfl) ?_
    refine dw_opd rfl rfl rfl (ao_mv (v := .bool _) rfl) ?_
    refine dw_gno rfl rfl rfl rfl rfl rfl ?_
    refine dw_gno rfl rfl rfl rfl rfl rfl ?_
    refine dw_opd rfl rfl rfl (ao_pickT rfl (v := .bool _) rfl) ?_
    refine dw_opd rfl rfl rfl (ao_mv (v := .bool _) rfl) ?_
    refine dw_gno rfl rfl rfl rfl rfl rfl ?_
    refine dw_gno rfl rfl rfl rfl rfl rfl ?_
    refine dw_gno rfl rfl rfl rfl rfl rfl ?_
    refine dw_gno rfl rfl rfl rfl rfl rfl ?_
    refine dw_gno rfl rfl rfl rfl rfl rfl ?_
    refine dw_gno rfl rfl rfl rfl rfl rfl ?_
    refine dw_gno rfl rfl rfl rfl rfl rfl ?_
    refine dw_opd rfl rfl rfl (ao_pickT rfl (v := .bool _) rfl) ?_
    refine dw_opd rfl rfl rfl (ao_mv (v := .bool _) rfl) ?_
    refine dw_gno rfl rfl rfl rfl rfl rfl ?_
    refine dw_gno rfl rfl rfl rfl rfl rfl ?_
    refine dw_gno rfl rfl rfl rfl rfl rfl ?_
    refine dw_gno rfl rfl rfl rfl rfl rfl ?_
    refine dw_gno rfl rfl rfl rfl rfl rfl ?_
    refine dw_gno rfl rfl rfl rfl rfl rfl ?_
    refine dw_gno rfl rfl rfl rfl rfl rfl ?_
    refine dw_gno rfl rfl rfl rfl rfl rfl ?_
    refine dw_gno rfl rfl rfl rfl rfl rfl ?_
    refine dw_gno rfl rfl rfl rfl rfl rfl ?_
    refine dw_gno rfl rfl rfl rfl rfl rfl ?_
    refine dw_gno rfl rfl rfl rfl rfl rfl ?_
    refine dw_gno rfl rfl rfl rfl rfl rfl ?_
    refine dw_opd rfl rfl rfl (ao_pickT rfl (v := .bool _) rfl) ?_
    refine dw_end ?_
    refine al_nilT ?_
    refine aw_condT (by rfl) ⟨_, rfl⟩ ?_
    refine aw_seq ?_
    refine aw_region ?_
    refine al_opd rfl rfl rfl (ao_as (v := .bool _) rfl) ?_
    refine al_nilT ?_
    refine aw_ret ?_
    refine thenA_r ?_
    refine ends1 rfl (rv_tmp (v := .bool _) rfl) ?_
    exact ⟨bf hb (by rintro ⟨q1, q2, q3, q4, q5, q6, q7⟩; omega), by exact SMp⟩
  · try simp only [nrm] at h1_
    refine dw_gyes rfl rfl rfl rfl rfl (ao_mv (v := .int _ _) rfl) ?_
    refine dw_gyes rfl rfl rfl rfl rfl (ao_lss rfl rfl) ?_
    refine dw_opd rfl rfl rfl (ao_pickF rfl (v := .bool _) rfl) ?_
    refine dw_opd rfl rfl rfl (ao_mv (v := .bool _) rfl) ?_
    refine dw_cases (d := 21) rfl (fun h2_ => ?_) (fun h2_ => ?_)
    · try simp only [nrm] at h2_
      refine dw_gno rfl rfl rfl rfl rfl rfl ?_
      refine dw_gno rfl rfl rfl rfl rfl rfl ?_
      refine dw_opd rfl rfl rfl (ao_pickT rfl (v := .bool _) rfl) ?_
      refine dw_opd rfl rfl rfl (ao_mv (v := .bool _) rfl) ?_
      refine dw_gno rfl rfl rfl rfl rfl rfl ?_
      refine dw_gno rfl rfl rfl rfl rfl rfl ?_
      refine dw_gno rfl rfl rfl rfl rfl rfl ?_
      refine dw_gno rfl rfl rfl rfl rfl rfl ?_
      refine dw_gno rfl rfl rfl rfl rfl rfl ?_
      refine dw_gno rfl rfl rfl rfl rfl rfl ?_
      refine dw_gno rfl rfl rfl rfl rfl rfl ?_
      refine dw_opd rfl rfl rfl (ao_pickT rfl (v := .bool _) rfl) ?_
      refine dw_opd rfl rfl rfl (ao_mv (v := .bool _) rfl) ?_
      refine dw_gno rfl rfl rfl rfl rfl rfl ?_
      refine dw_gno rfl rfl rfl rfl rfl rfl ?_
      refine dw_gno rfl rfl rfl rfl rfl rfl ?_
      refine dw_gno rfl rfl rfl rfl rfl rfl ?_
      refine dw_gno rfl rfl rfl rfl rfl rfl ?_
      refine dw_gno rfl rfl rfl rfl rfl rfl ?_
      refine dw_gno rfl rfl rfl rfl rfl rfl ?_
      refine dw_gno rfl rfl rfl rfl rfl rfl ?_
      refine dw_gno rfl rfl rfl rfl rfl rfl ?_
      refine dw_gno rfl rfl rfl rfl rfl rfl ?_
      refine dw_gno rfl rfl rfl rfl rfl rfl ?_
      refine dw_gno rfl rfl rfl rfl rfl rfl ?_
      refine dw_gno rfl rfl rfl rfl rfl rfl ?_
      refine dw_opd rfl rfl rfl (ao_pickT rfl (v := .bool _) rfl) ?_
      refine dw_end ?_
      refine al_nilT ?_
      refine aw_condT (by rfl) ⟨_, rfl⟩ ?_
      refine aw_seq ?_
      refine aw_region ?_
      refine al_opd rfl rfl rfl (ao_as (v := .bool _) rfl) ?_
      refine al_nilT ?_
      refine aw_ret ?_
      refine thenA_r ?_
      refine ends1 rfl (rv_tmp (v := .bool _) rfl) ?_
      exact ⟨bf hb (by rintro ⟨q1, q2, q3, q4, q5, q6, q7⟩; omega), by exact SMp⟩
    · try simp only [nrm] at h2_
      obtain ⟨x0, hx0⟩ := get_lt (show 0 < ks.length by omega)
      obtain ⟨z, hz⟩ := get_lt (show ks.length - 1 < ks.length by omega)
      refine dw_gyes rfl rfl rfl rfl rfl (ao_mv (v := .int _ _) rfl) ?_
      refine dw_gyes rfl rfl rfl rfl rfl (ao_gtr rfl rfl) ?_
      refine dw_opd rfl rfl rfl (ao_pickF rfl (v := .bool _) rfl) ?_
      refine dw_opd rfl rfl rfl (ao_mv (v := .bool _) rfl) ?_
      refine dw_cases (d := 25) rfl (fun h3_ => ?_) (fun h3_ => ?_)
      · try simp only [nrm] at h3_
        refine dw_gno rfl rfl rfl rfl rfl rfl ?_
        refine dw_gno rfl rfl rfl rfl rfl rfl ?_
        refine dw_gno rfl rfl rfl rfl rfl rfl ?_
        refine dw_gno rfl rfl rfl rfl rfl rfl ?_
        refine dw_gno rfl rfl rfl rfl rfl rfl ?_
        refine dw_gno rfl rfl rfl rfl rfl rfl ?_
        refine dw_gno rfl rfl rfl rfl rfl rfl ?_
        refine dw_opd rfl rfl rfl (ao_pickT rfl (v := .bool _) rfl) ?_
        refine dw_opd rfl rfl rfl (ao_mv (v := .bool _) rfl) ?_
        refine dw_gno rfl rfl rfl rfl rfl rfl ?_
        refine dw_gno rfl rfl rfl rfl rfl rfl ?_
        refine dw_gno rfl rfl rfl rfl rfl rfl ?_
        refine dw_gno rfl rfl rfl rfl rfl rfl ?_
        refine dw_gno rfl rfl rfl rfl rfl rfl ?_
        refine dw_gno rfl rfl rfl rfl rfl rfl ?_
        refine dw_gno rfl rfl rfl rfl rfl rfl ?_
        refine dw_gno rfl rfl rfl rfl rfl rfl ?_
        refine dw_gno rfl rfl rfl rfl rfl rfl ?_
        refine dw_gno rfl rfl rfl rfl rfl rfl ?_
        refine dw_gno rfl rfl rfl rfl rfl rfl ?_
        refine dw_gno rfl rfl rfl rfl rfl rfl ?_
        refine dw_gno rfl rfl rfl rfl rfl rfl ?_
        refine dw_opd rfl rfl rfl (ao_pickT rfl (v := .bool _) rfl) ?_
        refine dw_end ?_
        refine al_nilT ?_
        refine aw_condT (by rfl) ⟨_, rfl⟩ ?_
        refine aw_seq ?_
        refine aw_region ?_
        refine al_opd rfl rfl rfl (ao_as (v := .bool _) rfl) ?_
        refine al_nilT ?_
        refine aw_ret ?_
        refine thenA_r ?_
        refine ends1 rfl (rv_tmp (v := .bool _) rfl) ?_
        exact ⟨bf hb (by rintro ⟨q1, q2, q3, q4, q5, q6, q7⟩; omega), by exact SMp⟩
      · try simp only [nrm] at h3_
        refine dw_gyes rfl rfl rfl rfl rfl (ao_mv (v := .pointer _) rfl) ?_
        refine dw_gyes rfl rfl rfl rfl rfl (ao_nilCheck rfl) ?_
        refine dw_gyes rfl rfl rfl rfl rfl (ao_fieldAddr fo_27_1 rfl) ?_
        first | refine dw_gyes rfl rfl rfl rfl rfl (ao_load (v := .slice _ _ _) Try.isAgg23 (by rfl) (by exact HLp) (by rfl) (by exact RFp)) ?_ | refine dw_gyes rfl rfl rfl rfl rfl (ao_load (v := v) Try.isAgg23 (by rfl) (by exact HLp) (by rfl) (by exact RFp)) ?_ | refine dw_gyes rfl rfl rfl rfl rfl (ao_loadV (j := 0) (u := .slice _ _ _) Try.isAgg23 ha rfl rfl (by assumption) rfl) ?_ | refine dw_gyes rfl rfl rfl rfl rfl (ao_loadV (j := 1) (u := .slice _ _ _) Try.isAgg23 ha rfl rfl (by assumption) rfl) ?_ | refine dw_gyes rfl rfl rfl rfl rfl (ao_loadV (i := 0) (j := 0) (u := .slice _ _ _) Try.isAgg23 ha rfl rfl (by assumption) rfl) ?_ | refine dw_gyes rfl rfl rfl rfl rfl (ao_loadV (i := 0) (j := 1) (u := .slice _ _ _) Try.isAgg23 ha rfl rfl (by assumption) rfl) ?_
        first | refine dw_gyes rfl rfl rfl rfl rfl (ao_indexAddrS Try.underlying23 Try.sizeOf22 rfl rfl (by exact IXp) (by exact IXp)) ?_ | refine dw_gyes rfl rfl rfl rfl rfl (ao_indexV Try.underlying23 Try.sizeOf22 rfl rfl ha (by exact IXp) (by exact IXp)) ?_
        first | refine dw_gyes rfl rfl rfl rfl rfl (ao_load (v := .int _ _) Try.isAgg22 (by rfl) (by exact HLp) (by rfl) (by exact RFp)) ?_ | refine dw_gyes rfl rfl rfl rfl rfl (ao_loadV (j := 0) (u := .int _ _) Try.isAgg22 ha rfl rfl (by assumption) rfl) ?_ | refine dw_gyes rfl rfl rfl rfl rfl (ao_loadV (j := 1) (u := .int _ _) Try.isAgg22 ha rfl rfl (by assumption) rfl) ?_ | refine dw_gyes rfl rfl rfl rfl rfl (ao_loadV (i := 0) (j := 0) (u := .int _ _) Try.isAgg22 ha rfl rfl (by assumption) rfl) ?_ | refine dw_gyes rfl rfl rfl rfl rfl (ao_loadV (i := 0) (j := 1) (u := .int _ _) Try.isAgg22 ha rfl rfl (by assumption) rfl) ?_
        refine dw_gyes rfl rfl rfl rfl rfl (ao_neq rfl rfl) ?_
        refine dw_opd rfl rfl rfl (ao_pickF rfl (v := .bool _) rfl) ?_
        refine dw_opd rfl rfl rfl (ao_mv (v := .bool _) rfl) ?_
        refine dw_cases (d := 34) rfl (fun h4_ => ?_) (fun h4_ => ?_)
        · try simp only [nrm] at h4_
          refine dw_gno rfl rfl rfl rfl rfl rfl ?_
          refine dw_gno rfl rfl rfl rfl rfl rfl ?_
          refine dw_gno rfl rfl rfl rfl rfl rfl ?_
          refine dw_gno rfl rfl rfl rfl rfl rfl ?_
          refine dw_gno rfl rfl rfl rfl rfl rfl ?_
          refine dw_gno rfl rfl rfl rfl rfl rfl ?_
          refine dw_gno rfl rfl rfl rfl rfl rfl ?_
          refine dw_gno rfl rfl rfl rfl rfl rfl ?_
          refine dw_gno rfl rfl rfl rfl rfl rfl ?_
          refine dw_gno rfl rfl rfl rfl rfl rfl ?_
          refine dw_gno rfl rfl rfl rfl rfl rfl ?_
          refine dw_gno rfl rfl rfl rfl rfl rfl ?_
          refine dw_gno rfl rfl rfl rfl rfl rfl ?_
          refine dw_opd rfl rfl rfl (ao_pickT rfl (v := .bool _) rfl) ?_
          refine dw_end ?_
          refine al_nilT ?_
          refine aw_condT (by rfl) ⟨_, rfl⟩ ?_
          refine aw_seq ?_
          refine aw_region ?_
          refine al_opd rfl rfl rfl (ao_as (v := .bool _) rfl) ?_
          refine al_nilT ?_
          refine aw_ret ?_
          refine thenA_r ?_
          refine ends1 rfl (rv_tmp (v := .bool _) rfl) ?_
          exact ⟨bf hb (by rintro ⟨q1, q2, q3, q4, q5, q6, q7⟩; exact h4_ (q5 _ hx0)), by exact SMp⟩
        · try simp only [nrm] at h4_
          refine dw_gyes rfl rfl rfl rfl rfl (ao_mv (v := .pointer _) rfl) ?_
          refine dw_gyes rfl rfl rfl rfl rfl (ao_nilCheck rfl) ?_
          refine dw_gyes rfl rfl rfl rfl rfl (ao_fieldAddr fo_27_1 rfl) ?_
          first | refine dw_gyes rfl rfl rfl rfl rfl (ao_load (v := .slice _ _ _) Try.isAgg23 (by rfl) (by exact HLp) (by rfl) (by exact RFp)) ?_ | refine dw_gyes rfl rfl rfl rfl rfl (ao_load (v := v) Try.isAgg23 (by rfl) (by exact HLp) (by rfl) (by exact RFp)) ?_ | refine dw_gyes rfl rfl rfl rfl rfl (ao_loadV (j := 0) (u := .slice _ _ _) Try.isAgg23 ha rfl rfl (by assumption) rfl) ?_ | refine dw_gyes rfl rfl rfl rfl rfl (ao_loadV (j := 1) (u := .slice _ _ _) Try.isAgg23 ha rfl rfl (by assumption) rfl) ?_ | refine dw_gyes rfl rfl rfl rfl rfl (ao_loadV (i := 0) (j := 0) (u := .slice _ _ _) Try.isAgg23 ha rfl rfl (by assumption) rfl) ?_ | refine dw_gyes rfl rfl rfl rfl rfl (ao_loadV (i := 0) (j := 1) (u := .slice _ _ _) Try.isAgg23 ha rfl rfl (by assumption) rfl) ?_
          refine dw_gyes rfl rfl rfl rfl rfl (ao_mv (v := .int _ _) rfl) ?_
          refine dw_gyes rfl rfl rfl rfl rfl ((ao_sub rfl rfl).val (subn ks.length (by omega) (by omega))) ?_
          first | refine dw_gyes rfl rfl rfl rfl rfl (ao_indexAddrS Try.underlying23 Try.sizeOf22 rfl rfl (by exact IXp) (by exact IXp)) ?_ | refine dw_gyes rfl rfl rfl rfl rfl (ao_indexV Try.underlying23 Try.sizeOf22 rfl rfl ha (by exact IXp) (by exact IXp)) ?_
          first | refine dw_gyes rfl rfl rfl rfl rfl (ao_load (v := .int _ _) Try.isAgg22 (by rfl) (by exact HLp) (by rfl) (by exact RFp)) ?_ | refine dw_gyes rfl rfl rfl rfl rfl (ao_loadV (j := 0) (u := .int _ _) Try.isAgg22 ha rfl rfl (by assumption) rfl) ?_ | refine dw_gyes rfl rfl rfl rfl rfl (ao_loadV (j := 1) (u := .int _ _) Try.isAgg22 ha rfl rfl (by assumption) rfl) ?_ | refine dw_gyes rfl rfl rfl rfl rfl (ao_loadV (i := 0) (j := 0) (u := .int _ _) Try.isAgg22 ha rfl rfl (by assumption) rfl) ?_ | refine dw_gyes rfl rfl rfl rfl rfl (ao_loadV (i := 0) (j := 1) (u := .int _ _) Try.isAgg22 ha rfl rfl (by assumption) rfl) ?_
          refine dw_gyes rfl rfl rfl rfl rfl (ao_mv (v := .pointer _) rfl) ?_
          refine dw_gyes rfl rfl rfl rfl rfl (ao_nilCheck rfl) ?_
          refine dw_gyes rfl rfl rfl rfl rfl (ao_fieldAddr fo_27_0 rfl) ?_
          first | refine dw_gyes rfl rfl rfl rfl rfl (ao_load (v := .int _ _) Try.isAgg22 (by rfl) (by exact HLp) (by rfl) (by exact RFp)) ?_ | refine dw_gyes rfl rfl rfl rfl rfl (ao_loadV (j := 0) (u := .int _ _) Try.isAgg22 ha rfl rfl (by assumption) rfl) ?_ | refine dw_gyes rfl rfl rfl rfl rfl (ao_loadV (j := 1) (u := .int _ _) Try.isAgg22 ha rfl rfl (by assumption) rfl) ?_ | refine dw_gyes rfl rfl rfl rfl rfl (ao_loadV (i := 0) (j := 0) (u := .int _ _) Try.isAgg22 ha rfl rfl (by assumption) rfl) ?_ | refine dw_gyes rfl rfl rfl rfl rfl (ao_loadV (i := 0) (j := 1) (u := .int _ _) Try.isAgg22 ha rfl rfl (by assumption) rfl) ?_
          refine dw_gyes rfl rfl rfl rfl rfl (ao_neq rfl rfl) ?_
          refine dw_opd rfl rfl rfl (ao_pickF rfl (v := .bool _) rfl) ?_
          refine dw_end ?_
          refine al_nilT ?_
          refine aw_cond rfl (fun h5_ => ?_) (fun h5_ => ?_)
          · try simp only [nrm] at h5_
            refine aw_seq ?_
            refine aw_region ?_
            refine al_opd rfl rfl rfl (ao_as (v := .bool _) rfl) ?_
            refine al_nilT ?_
            refine aw_ret ?_
            refine thenA_r ?_
            refine ends1 rfl (rv_tmp (v := .bool _) rfl) ?_
            exact ⟨bf hb (by rintro ⟨q1, q2, q3, q4, q5, q6, q7⟩; exact h5_ (q6 _ hz)), by exact SMp⟩
          · try simp only [nrm] at h5_
            refine aw_skipT ?_
            refine aw_seq ?_
            refine aw_seq ?_
            refine aw_region ?_
            refine al_opd rfl rfl rfl (ao_as (v := .int _ _) rfl) ?_
            refine al_nilT ?_
            refine aw_block ?_
            refine aw_loop (fun (gk : Nat) (fr : AFr) (G : AHeap) => ∃ get : Nat → Value, fr = ⟨70, get⟩ ∧ (∃ k : Nat, k + 1 ≤ ks.length ∧ gk = ks.length - k ∧ G = H ∧ get 0 = .pointer (some ⟨pb, 0, none⟩) ∧ get 3 = .int .i64 ks.length ∧ get 4 = .int .i64 ((k + 1 : Nat) : Int) ∧ ∀ (j : Nat) x y, j < k → ks[j]? = some x → ks[j + 1]? = some y → x < y)) (ks.length) ⟨_, rfl, ?_⟩ ?_
            · exact ⟨0, by omega, rfl, rfl, rfl, rfl, rfl, fun j x y h => by omega⟩
            · rintro gk fr G ⟨get, rfl, k, hk, rfl, rfl, g0, g3, g4, hq⟩
              refine aw_slot (d := 0) (v := .pointer (some ⟨pb, 0, none⟩)) (by first | assumption | rfl) ?_
              refine aw_slot (d := 3) (v := .int .i64 ks.length) (by first | assumption | rfl) ?_
              refine aw_slot (d := 4) (v := .int .i64 ((k + 1 : Nat) : Int)) (by first | assumption | rfl) ?_
              refine aw_seq ?_
              refine aw_seq ?_
              refine aw_region ?_
              refine al_opd rfl rfl rfl (ao_mv (v := .int _ _) rfl) ?_
              refine al_opd rfl rfl rfl (ao_mv (v := .int _ _) rfl) ?_
              refine al_opd rfl rfl rfl (ao_lss rfl rfl) ?_
              refine al_nilT ?_
              refine aw_cond rfl (fun h6_ => ?_) (fun h6_ => ?_)
              · try simp only [nrm] at h6_
                obtain ⟨x, hx⟩ := get_lt (show k < ks.length by omega)
                obtain ⟨y, hy⟩ := get_lt (show k + 1 < ks.length by omega)
                refine aw_skipT ?_
                refine aw_seq ?_
                refine aw_block ?_
                refine aw_seq ?_
                refine aw_draw (m := 16) mo (by kernel_rfl) rfl (fun _ _ _ h => h) ?_
                refine dw_opd rfl rfl rfl (ao_mv (v := .pointer _) rfl) ?_
                refine dw_opd rfl rfl rfl (ao_nilCheck rfl) ?_
                refine dw_opd rfl rfl rfl (ao_fieldAddr fo_27_1 rfl) ?_
                first | refine dw_opd rfl rfl rfl (ao_load (v := .slice _ _ _) Try.isAgg23 (by rfl) (by exact HLp) (by rfl) (by exact RFp)) ?_ | refine dw_opd rfl rfl rfl (ao_load (v := v) Try.isAgg23 (by rfl) (by exact HLp) (by rfl) (by exact RFp)) ?_ | refine dw_opd rfl rfl rfl (ao_loadV (j := 0) (u := .slice _ _ _) Try.isAgg23 ha rfl rfl (by assumption) rfl) ?_ | refine dw_opd rfl rfl rfl (ao_loadV (j := 1) (u := .slice _ _ _) Try.isAgg23 ha rfl rfl (by assumption) rfl) ?_ | refine dw_opd rfl rfl rfl (ao_loadV (i := 0) (j := 0) (u := .slice _ _ _) Try.isAgg23 ha rfl rfl (by assumption) rfl) ?_ | refine dw_opd rfl rfl rfl (ao_loadV (i := 0) (j := 1) (u := .slice _ _ _) Try.isAgg23 ha rfl rfl (by assumption) rfl) ?_
                refine dw_opd rfl rfl rfl (ao_mv (v := .int _ _) rfl) ?_
                first | refine dw_opd rfl rfl rfl (ao_indexAddrS Try.underlying23 Try.sizeOf22 rfl rfl (by exact IXp) (by exact IXp)) ?_ | refine dw_opd rfl rfl rfl (ao_indexV Try.underlying23 Try.sizeOf22 rfl rfl ha (by exact IXp) (by exact IXp)) ?_
                first | refine dw_opd rfl rfl rfl (ao_load (v := .int _ _) Try.isAgg22 (by rfl) (by exact HLp) (by rfl) (by exact RFp)) ?_ | refine dw_opd rfl rfl rfl (ao_loadV (j := 0) (u := .int _ _) Try.isAgg22 ha rfl rfl (by assumption) rfl) ?_ | refine dw_opd rfl rfl rfl (ao_loadV (j := 1) (u := .int _ _) Try.isAgg22 ha rfl rfl (by assumption) rfl) ?_ | refine dw_opd rfl rfl rfl (ao_loadV (i := 0) (j := 0) (u := .int _ _) Try.isAgg22 ha rfl rfl (by assumption) rfl) ?_ | refine dw_opd rfl rfl rfl (ao_loadV (i := 0) (j := 1) (u := .int _ _) Try.isAgg22 ha rfl rfl (by assumption) rfl) ?_
                refine dw_opd rfl rfl rfl (ao_mv (v := .pointer _) rfl) ?_
                refine dw_opd rfl rfl rfl (ao_nilCheck rfl) ?_
                refine dw_opd rfl rfl rfl (ao_fieldAddr fo_27_1 rfl) ?_
                first | refine dw_opd rfl rfl rfl (ao_load (v := .slice _ _ _) Try.isAgg23 (by rfl) (by exact HLp) (by rfl) (by exact RFp)) ?_ | refine dw_opd rfl rfl rfl (ao_load (v := v) Try.isAgg23 (by rfl) (by exact HLp) (by rfl) (by exact RFp)) ?_ | refine dw_opd rfl rfl rfl (ao_loadV (j := 0) (u := .slice _ _ _) Try.isAgg23 ha rfl rfl (by assumption) rfl) ?_ | refine dw_opd rfl rfl rfl (ao_loadV (j := 1) (u := .slice _ _ _) Try.isAgg23 ha rfl rfl (by assumption) rfl) ?_ | refine dw_opd rfl rfl rfl (ao_loadV (i := 0) (j := 0) (u := .slice _ _ _) Try.isAgg23 ha rfl rfl (by assumption) rfl) ?_ | refine dw_opd rfl rfl rfl (ao_loadV (i := 0) (j := 1) (u := .slice _ _ _) Try.isAgg23 ha rfl rfl (by assumption) rfl) ?_
                refine dw_opd rfl rfl rfl (ao_mv (v := .int _ _) rfl) ?_
                refine dw_opd rfl rfl rfl ((ao_sub rfl rfl).val (sub1 k (by omega))) ?_
                first | refine dw_opd rfl rfl rfl (ao_indexAddrS Try.underlying23 Try.sizeOf22 rfl rfl (by exact IXp) (by exact IXp)) ?_ | refine dw_opd rfl rfl rfl (ao_indexV Try.underlying23 Try.sizeOf22 rfl rfl ha (by exact IXp) (by exact IXp)) ?_
                first | refine dw_opd rfl rfl rfl (ao_load (v := .int _ _) Try.isAgg22 (by rfl) (by exact HLp) (by rfl) (by exact RFp)) ?_ | refine dw_opd rfl rfl rfl (ao_loadV (j := 0) (u := .int _ _) Try.isAgg22 ha rfl rfl (by assumption) rfl) ?_ | refine dw_opd rfl rfl rfl (ao_loadV (j := 1) (u := .int _ _) Try.isAgg22 ha rfl rfl (by assumption) rfl) ?_ | refine dw_opd rfl rfl rfl (ao_loadV (i := 0) (j := 0) (u := .int _ _) Try.isAgg22 ha rfl rfl (by assumption) rfl) ?_ | refine dw_opd rfl rfl rfl (ao_loadV (i := 0) (j := 1) (u := .int _ _) Try.isAgg22 ha rfl rfl (by assumption) rfl) ?_
                refine dw_opd rfl rfl rfl (ao_leq rfl rfl) ?_
                refine dw_end ?_
                refine al_nilT ?_
                refine aw_cond rfl (fun h7_ => ?_) (fun h7_ => ?_)
                · try simp only [nrm] at h7_
                  refine aw_seq ?_
                  refine aw_region ?_
                  refine al_opd rfl rfl rfl (ao_as (v := .bool _) rfl) ?_
                  refine al_nilT ?_
                  refine aw_ret ?_
                  refine blockA_r ?_
                  refine thenA_r ?_
                  refine thenA_r ?_
                  refine blockA_r ?_
                  refine thenA_r ?_
                  refine ends1 rfl (rv_tmp (v := .bool _) rfl) ?_
                  exact ⟨bf hb (by rintro ⟨q1, q2, q3, q4, q5, q6, q7⟩; have := q7 _ _ _ hx hy; omega), by exact SMp⟩
                · try simp only [nrm] at h7_
                  refine aw_skipB ?_
                  refine thenA_n ?_
                  refine aw_region ?_
                  refine al_opd rfl rfl rfl (ao_mv (v := .int _ _) rfl) ?_
                  first | refine al_opd rfl rfl rfl ((ao_add rfl rfl).val (nw_i64 BDp BDp)) ?_ | refine al_opd rfl rfl rfl (ao_add rfl rfl) ?_
                  refine al_opd rfl rfl rfl (ao_as (v := .int _ _) rfl) ?_
                  refine al_nilT ?_
                  refine ⟨_, ?_, _, rfl, k + 1, by omega, rfl, rfl, rfl, rfl, by rfl, fun j x' y' h h1 h2 => ?_⟩
                  · omega
                  · rcases Nat.lt_or_ge j k with h3 | h3
                    · exact hq j x' y' h3 h1 h2
                    · obtain rfl : j = k := by omega
                      rw [hx] at h1; rw [hy] at h2; cases h1; cases h2; omega
              · try simp only [nrm] at h6_
                refine aw_exit ?_
                refine thenA_x ?_
                refine thenA_x ?_
                refine blockA_hit ?_
                refine thenA_n ?_
                refine aw_seq ?_
                refine aw_region ?_
                refine al_opd rfl rfl rfl (ao_as (v := .bool _) rfl) ?_
                refine al_nilT ?_
                refine aw_ret ?_
                refine ends1 rfl (rv_tmp (v := .bool _) rfl) ?_
                exact ⟨bt hb ⟨by omega, by omega, by omega, by omega, fun x h => by rw [hx0] at h; cases h; exact h4_, fun x h => by rw [hz] at h; cases h; exact h5_, fun j x y h1 h2 => hq j x y (by have := (List.getElem?_eq_some_iff.mp h2).1; omega) h1 h2⟩, by exact SMp⟩

-- impl.size[int16]
theorem sizeI16_c {v : Value} {l : List Int} {H : AHeap} (ha : Sl H i16 1 v l) : ACd Try.prog 23 [v] H (.int .i64 l.length) (H) := by
  refine ac_gc0 (fun β => VR.plainT β (by first | rfl | simp [plainT, plainV, plain1])) (ac_body Try.func23 rfl Try.ntmps23 rfl ?_)
  refine aw_seq ?_
  refine aw_region ?_
  refine al_opd rfl rfl rfl (ao_as (v := .int _ _) rfl) ?_
  refine al_nilT ?_
  refine aw_seq ?_
  refine aw_region ?_
  first | refine al_opd rfl rfl rfl (ao_mv (v := .slice _ _ _) rfl) ?_ | refine al_opd rfl rfl rfl (ao_mv (v := v) rfl) ?_
  first | refine al_opd rfl rfl rfl (ao_lenS Try.underlying23 (by rfl)) ?_ | refine al_opd rfl rfl rfl (ao_lenN Try.underlying23 (by rfl)) ?_ | refine al_opd rfl rfl rfl (ao_lenV Try.underlying23 rfl ha) ?_
  refine al_opd rfl rfl rfl (ao_as (v := .int _ _) rfl) ?_
  refine al_nilT ?_
  refine aw_ret ?_
  refine ends1 rfl (rv_tmp (v := .int _ _) rfl) ?_
  exact ⟨by first | rfl | (simp [*]; (first | done | fail)), by exact SMp⟩

-- impl.size[impl.Hold]
theorem sizeHold_c {v : Value} {l : List Hold} {H : AHeap} (ha : Sl H hold 2 v l) : ACd Try.prog 33 [v] H (.int .i64 l.length) (H) := by
  refine ac_gc0 (fun β => VR.plainT β (by first | rfl | simp [plainT, plainV, plain1])) (ac_body Try.func33 rfl Try.ntmps33 rfl ?_)
  refine aw_seq ?_
  refine aw_region ?_
  refine al_opd rfl rfl rfl (ao_as (v := .int _ _) rfl) ?_
  refine al_nilT ?_
  refine aw_seq ?_
  refine aw_region ?_
  first | refine al_opd rfl rfl rfl (ao_mv (v := .slice _ _ _) rfl) ?_ | refine al_opd rfl rfl rfl (ao_mv (v := v) rfl) ?_
  first | refine al_opd rfl rfl rfl (ao_lenS Try.underlying36 (by rfl)) ?_ | refine al_opd rfl rfl rfl (ao_lenN Try.underlying36 (by rfl)) ?_ | refine al_opd rfl rfl rfl (ao_lenV Try.underlying36 rfl ha) ?_
  refine al_opd rfl rfl rfl (ao_as (v := .int _ _) rfl) ?_
  refine al_nilT ?_
  refine aw_ret ?_
  refine ends1 rfl (rv_tmp (v := .int _ _) rfl) ?_
  exact ⟨by first | rfl | (simp [*]; (first | done | fail)), by exact SMp⟩

-- impl.ValidRope
theorem implValidRope_c {L : Int} {v : Value} {ks : List Int} {b : Bool} {H : AHeap} (ha0 : Sl H i16 1 v ks) (hlen : ks.length ≤ 4194304) (hL : -32768 ≤ L ∧ L ≤ 32767) (hb : b = true ↔ okRope L ks) : ACd Try.prog 24 [.agg #[.int .i16 L, v]] H (.bool b) (H) := by
  have ha : Sl (H.push (.cells [.int .i16 L, v] 1)) i16 1 v ks := ha0.mono (by exact SMp)
  refine ac_gc0 (fun β => VR.plainT β (by first | rfl | simp [plainT, plainV, plain1])) (ac_body Try.func24 rfl Try.ntmps24 rfl ?_)
  refine aw_seq ?_
  refine aw_region ?_
  refine al_opd rfl rfl rfl (ao_boxa (by rfl)) ?_
  refine al_opd rfl rfl rfl (ao_as (v := .bool _) rfl) ?_
  refine al_nilT ?_
  refine aw_seq ?_
  refine aw_seq ?_
  refine aw_region ?_
  refine al_opd rfl rfl rfl (ao_fieldAddr fo_27_0 rfl) ?_
  first | refine al_opd rfl rfl rfl (ao_load (v := .int _ _) Try.isAgg22 (by rfl) (by exact HLp) (by rfl) (by exact RFp)) ?_ | refine al_opd rfl rfl rfl (ao_loadV (j := 0) (u := .int _ _) Try.isAgg22 ha rfl rfl (by assumption) rfl) ?_ | refine al_opd rfl rfl rfl (ao_loadV (j := 1) (u := .int _ _) Try.isAgg22 ha rfl rfl (by assumption) rfl) ?_ | refine al_opd rfl rfl rfl (ao_loadV (i := 0) (j := 0) (u := .int _ _) Try.isAgg22 ha rfl rfl (by assumption) rfl) ?_ | refine al_opd rfl rfl rfl (ao_loadV (i := 0) (j := 1) (u := .int _ _) Try.isAgg22 ha rfl rfl (by assumption) rfl) ?_
  first | refine al_opd rfl rfl rfl ((ao_conv ⟨_, Try.underlying22⟩ Try.underlying2 rfl).val (nw_i64 BDp BDp)) ?_ | refine al_opd rfl rfl rfl (ao_conv ⟨_, Try.underlying22⟩ Try.underlying2 rfl) ?_
  refine al_opd rfl rfl rfl (ao_calld (within_c) Try.call25 rfl rfl) ?_
  refine al_opd rfl rfl rfl (ao_not rfl) ?_
  refine al_opd rfl rfl rfl (ao_mv (v := .bool _) rfl) ?_
  refine al_cases (d := 9) rfl (fun h1_ => ?_) (fun h1_ => ?_)
  · try simp only [nrm] at h1_
    refine al_gno rfl rfl rfl rfl rfl ?_
    refine al_gno rfl rfl rfl rfl rfl ?_
    refine al_gno rfl rfl rfl rfl rfl ?_
    refine al_gno rfl rfl rfl rfl rfl ?_
    refine al_gno rfl rfl rfl rfl rfl ?_
    refine al_opd rfl rfl rfl (ao_pickT rfl (v := .bool _) rfl) ?_
    refine al_nilT ?_
    refine aw_condT (by rfl) ⟨_, rfl⟩ ?_
    refine aw_seq ?_
    refine aw_region ?_
    refine al_opd rfl rfl rfl (ao_as (v := .bool _) rfl) ?_
    refine al_nilT ?_
    refine aw_ret ?_
    refine thenA_r ?_
    refine ends1 rfl (rv_tmp (v := .bool _) rfl) ?_
    exact ⟨bf hb (by rintro ⟨q1, q2, q3, q4, q5, q6, q7⟩; omega), by exact SMp⟩
  · try simp only [nrm] at h1_
    refine al_gyes rfl rfl rfl rfl rfl (ao_fieldAddr fo_27_1 rfl) ?_
    first | refine al_gyes rfl rfl rfl rfl rfl (ao_load (v := .slice _ _ _) Try.isAgg23 (by rfl) (by exact HLp) (by rfl) (by exact RFp)) ?_ | refine al_gyes rfl rfl rfl rfl rfl (ao_load (v := v) Try.isAgg23 (by rfl) (by exact HLp) (by rfl) (by exact RFp)) ?_ | refine al_gyes rfl rfl rfl rfl rfl (ao_loadV (j := 0) (u := .slice _ _ _) Try.isAgg23 ha rfl rfl (by assumption) rfl) ?_ | refine al_gyes rfl rfl rfl rfl rfl (ao_loadV (j := 1) (u := .slice _ _ _) Try.isAgg23 ha rfl rfl (by assumption) rfl) ?_ | refine al_gyes rfl rfl rfl rfl rfl (ao_loadV (i := 0) (j := 0) (u := .slice _ _ _) Try.isAgg23 ha rfl rfl (by assumption) rfl) ?_ | refine al_gyes rfl rfl rfl rfl rfl (ao_loadV (i := 0) (j := 1) (u := .slice _ _ _) Try.isAgg23 ha rfl rfl (by assumption) rfl) ?_
    refine al_gyes rfl rfl rfl rfl rfl (ao_calld (sizeI16_c (v := v) (l := ks) ha) Try.call23 rfl rfl) ?_
    refine al_gyes rfl rfl rfl rfl rfl (ao_calld (within_c) Try.call25 rfl rfl) ?_
    refine al_gyes rfl rfl rfl rfl rfl (ao_not rfl) ?_
    refine al_opd rfl rfl rfl (ao_pickF rfl (v := .bool _) rfl) ?_
    refine al_nilT ?_
    refine aw_cond rfl (fun h2_ => ?_) (fun h2_ => ?_)
    · try simp only [nrm] at h2_
      refine aw_seq ?_
      refine aw_region ?_
      refine al_opd rfl rfl rfl (ao_as (v := .bool _) rfl) ?_
      refine al_nilT ?_
      refine aw_ret ?_
      refine thenA_r ?_
      refine ends1 rfl (rv_tmp (v := .bool _) rfl) ?_
      exact ⟨bf hb (by rintro ⟨q1, q2, q3, q4, q5, q6, q7⟩; omega), by exact SMp⟩
    · try simp only [nrm] at h2_
      obtain ⟨x0, hx0⟩ := get_lt (show 0 < ks.length by omega)
      obtain ⟨z, hz⟩ := get_lt (show ks.length - 1 < ks.length by omega)
      refine aw_skipT ?_
      refine aw_seq ?_
      refine aw_seq ?_
      refine aw_region ?_
      refine al_opd rfl rfl rfl (ao_as (v := .int _ _) rfl) ?_
      refine al_nilT ?_
      refine aw_block ?_
      refine aw_loop (fun (gk : Nat) (fr : AFr) (G : AHeap) => ∃ get : Nat → Value, fr = ⟨53, get⟩ ∧ (∃ k : Nat, k + 1 ≤ ks.length ∧ gk = ks.length - k ∧ G = H.push (.cells [.int .i16 L, v] 1) ∧ get 1 = .pointer (some ⟨H.next, 0, none⟩) ∧ get 3 = .int .i64 ((k + 1 : Nat) : Int) ∧ ∀ (j : Nat) x y, j < k → ks[j]? = some x → ks[j + 1]? = some y → x < y)) (ks.length) ⟨_, rfl, ?_⟩ ?_
      · exact ⟨0, by omega, rfl, rfl, rfl, rfl, fun j x y h => by omega⟩
      · rintro gk fr G ⟨get, rfl, k, hk, rfl, rfl, g1, g3, hq⟩
        refine aw_slot (d := 1) (v := .pointer (some ⟨H.next, 0, none⟩)) (by first | assumption | rfl) ?_
        refine aw_slot (d := 3) (v := .int .i64 ((k + 1 : Nat) : Int)) (by first | assumption | rfl) ?_
        refine aw_seq ?_
        refine aw_seq ?_
        refine aw_region ?_
        refine al_opd rfl rfl rfl (ao_mv (v := .int _ _) rfl) ?_
        refine al_opd rfl rfl rfl (ao_fieldAddr fo_27_1 rfl) ?_
        first | refine al_opd rfl rfl rfl (ao_load (v := .slice _ _ _) Try.isAgg23 (by rfl) (by exact HLp) (by rfl) (by exact RFp)) ?_ | refine al_opd rfl rfl rfl (ao_load (v := v) Try.isAgg23 (by rfl) (by exact HLp) (by rfl) (by exact RFp)) ?_ | refine al_opd rfl rfl rfl (ao_loadV (j := 0) (u := .slice _ _ _) Try.isAgg23 ha rfl rfl (by assumption) rfl) ?_ | refine al_opd rfl rfl rfl (ao_loadV (j := 1) (u := .slice _ _ _) Try.isAgg23 ha rfl rfl (by assumption) rfl) ?_ | refine al_opd rfl rfl rfl (ao_loadV (i := 0) (j := 0) (u := .slice _ _ _) Try.isAgg23 ha rfl rfl (by assumption) rfl) ?_ | refine al_opd rfl rfl rfl (ao_loadV (i := 0) (j := 1) (u := .slice _ _ _) Try.isAgg23 ha rfl rfl (by assumption) rfl) ?_
        first | refine al_opd rfl rfl rfl (ao_lenS Try.underlying23 (by rfl)) ?_ | refine al_opd rfl rfl rfl (ao_lenN Try.underlying23 (by rfl)) ?_ | refine al_opd rfl rfl rfl (ao_lenV Try.underlying23 rfl ha) ?_
        refine al_opd rfl rfl rfl (ao_lss rfl rfl) ?_
        refine al_nilT ?_
        refine aw_cond rfl (fun h3_ => ?_) (fun h3_ => ?_)
        · try simp only [nrm] at h3_
          obtain ⟨x, hx⟩ := get_lt (show k < ks.length by omega)
          obtain ⟨y, hy⟩ := get_lt (show k + 1 < ks.length by omega)
          refine aw_skipT ?_
          refine aw_seq ?_
          refine aw_block ?_
          refine aw_seq ?_
          refine aw_draw (m := 12) mo (by kernel_rfl) rfl (fun _ _ _ h => h) ?_
          refine dw_opd rfl rfl rfl (ao_fieldAddr fo_27_1 rfl) ?_
          first | refine dw_opd rfl rfl rfl (ao_load (v := .slice _ _ _) Try.isAgg23 (by rfl) (by exact HLp) (by rfl) (by exact RFp)) ?_ | refine dw_opd rfl rfl rfl (ao_load (v := v) Try.isAgg23 (by rfl) (by exact HLp) (by rfl) (by exact RFp)) ?_ | refine dw_opd rfl rfl rfl (ao_loadV (j := 0) (u := .slice _ _ _) Try.isAgg23 ha rfl rfl (by assumption) rfl) ?_ | refine dw_opd rfl rfl rfl (ao_loadV (j := 1) (u := .slice _ _ _) Try.isAgg23 ha rfl rfl (by assumption) rfl) ?_ | refine dw_opd rfl rfl rfl (ao_loadV (i := 0) (j := 0) (u := .slice _ _ _) Try.isAgg23 ha rfl rfl (by assumption) rfl) ?_ | refine dw_opd rfl rfl rfl (ao_loadV (i := 0) (j := 1) (u := .slice _ _ _) Try.isAgg23 ha rfl rfl (by assumption) rfl) ?_
          refine dw_opd rfl rfl rfl (ao_mv (v := .int _ _) rfl) ?_
          first | refine dw_opd rfl rfl rfl (ao_indexAddrS Try.underlying23 Try.sizeOf22 rfl rfl (by exact IXp) (by exact IXp)) ?_ | refine dw_opd rfl rfl rfl (ao_indexV Try.underlying23 Try.sizeOf22 rfl rfl ha (by exact IXp) (by exact IXp)) ?_
          first | refine dw_opd rfl rfl rfl (ao_load (v := .int _ _) Try.isAgg22 (by rfl) (by exact HLp) (by rfl) (by exact RFp)) ?_ | refine dw_opd rfl rfl rfl (ao_loadV (j := 0) (u := .int _ _) Try.isAgg22 ha rfl rfl (by assumption) rfl) ?_ | refine dw_opd rfl rfl rfl (ao_loadV (j := 1) (u := .int _ _) Try.isAgg22 ha rfl rfl (by assumption) rfl) ?_ | refine dw_opd rfl rfl rfl (ao_loadV (i := 0) (j := 0) (u := .int _ _) Try.isAgg22 ha rfl rfl (by assumption) rfl) ?_ | refine dw_opd rfl rfl rfl (ao_loadV (i := 0) (j := 1) (u := .int _ _) Try.isAgg22 ha rfl rfl (by assumption) rfl) ?_
          refine dw_opd rfl rfl rfl (ao_fieldAddr fo_27_1 rfl) ?_
          first | refine dw_opd rfl rfl rfl (ao_load (v := .slice _ _ _) Try.isAgg23 (by rfl) (by exact HLp) (by rfl) (by exact RFp)) ?_ | refine dw_opd rfl rfl rfl (ao_load (v := v) Try.isAgg23 (by rfl) (by exact HLp) (by rfl) (by exact RFp)) ?_ | refine dw_opd rfl rfl rfl (ao_loadV (j := 0) (u := .slice _ _ _) Try.isAgg23 ha rfl rfl (by assumption) rfl) ?_ | refine dw_opd rfl rfl rfl (ao_loadV (j := 1) (u := .slice _ _ _) Try.isAgg23 ha rfl rfl (by assumption) rfl) ?_ | refine dw_opd rfl rfl rfl (ao_loadV (i := 0) (j := 0) (u := .slice _ _ _) Try.isAgg23 ha rfl rfl (by assumption) rfl) ?_ | refine dw_opd rfl rfl rfl (ao_loadV (i := 0) (j := 1) (u := .slice _ _ _) Try.isAgg23 ha rfl rfl (by assumption) rfl) ?_
          refine dw_opd rfl rfl rfl (ao_mv (v := .int _ _) rfl) ?_
          refine dw_opd rfl rfl rfl ((ao_sub rfl rfl).val (sub1 k (by omega))) ?_
          first | refine dw_opd rfl rfl rfl (ao_indexAddrS Try.underlying23 Try.sizeOf22 rfl rfl (by exact IXp) (by exact IXp)) ?_ | refine dw_opd rfl rfl rfl (ao_indexV Try.underlying23 Try.sizeOf22 rfl rfl ha (by exact IXp) (by exact IXp)) ?_
          first | refine dw_opd rfl rfl rfl (ao_load (v := .int _ _) Try.isAgg22 (by rfl) (by exact HLp) (by rfl) (by exact RFp)) ?_ | refine dw_opd rfl rfl rfl (ao_loadV (j := 0) (u := .int _ _) Try.isAgg22 ha rfl rfl (by assumption) rfl) ?_ | refine dw_opd rfl rfl rfl (ao_loadV (j := 1) (u := .int _ _) Try.isAgg22 ha rfl rfl (by assumption) rfl) ?_ | refine dw_opd rfl rfl rfl (ao_loadV (i := 0) (j := 0) (u := .int _ _) Try.isAgg22 ha rfl rfl (by assumption) rfl) ?_ | refine dw_opd rfl rfl rfl (ao_loadV (i := 0) (j := 1) (u := .int _ _) Try.isAgg22 ha rfl rfl (by assumption) rfl) ?_
          refine dw_opd rfl rfl rfl (ao_leq rfl rfl) ?_
          refine dw_end ?_
          refine al_nilT ?_
          refine aw_cond rfl (fun h4_ => ?_) (fun h4_ => ?_)
          · try simp only [nrm] at h4_
            refine aw_seq ?_
            refine aw_region ?_
            refine al_opd rfl rfl rfl (ao_as (v := .bool _) rfl) ?_
            refine al_nilT ?_
            refine aw_ret ?_
            refine blockA_r ?_
            refine thenA_r ?_
            refine thenA_r ?_
            refine blockA_r ?_
            refine thenA_r ?_
            refine ends1 rfl (rv_tmp (v := .bool _) rfl) ?_
            exact ⟨bf hb (by rintro ⟨q1, q2, q3, q4, q5, q6, q7⟩; have := q7 _ _ _ hx hy; omega), by exact SMp⟩
          · try simp only [nrm] at h4_
            refine aw_skipB ?_
            refine thenA_n ?_
            refine aw_region ?_
            refine al_opd rfl rfl rfl (ao_mv (v := .int _ _) rfl) ?_
            first | refine al_opd rfl rfl rfl ((ao_add rfl rfl).val (nw_i64 BDp BDp)) ?_ | refine al_opd rfl rfl rfl (ao_add rfl rfl) ?_
            refine al_opd rfl rfl rfl (ao_as (v := .int _ _) rfl) ?_
            refine al_nilT ?_
            refine ⟨_, ?_, _, rfl, k + 1, by omega, rfl, rfl, rfl, by rfl, fun j x' y' h h1 h2 => ?_⟩
            · omega
            · rcases Nat.lt_or_ge j k with h3 | h3
              · exact hq j x' y' h3 h1 h2
              · obtain rfl : j = k := by omega
                rw [hx] at h1; rw [hy] at h2; cases h1; cases h2; omega
        · try simp only [nrm] at h3_
          refine aw_exit ?_
          refine thenA_x ?_
          refine thenA_x ?_
          refine blockA_hit ?_
          refine thenA_n ?_
          refine aw_seq ?_
          refine aw_draw (m := 19) mo (by kernel_rfl) rfl (fun _ _ _ h => h) ?_
          refine dw_opd rfl rfl rfl (ao_fieldAddr fo_27_1 rfl) ?_
          first | refine dw_opd rfl rfl rfl (ao_load (v := .slice _ _ _) Try.isAgg23 (by rfl) (by exact HLp) (by rfl) (by exact RFp)) ?_ | refine dw_opd rfl rfl rfl (ao_load (v := v) Try.isAgg23 (by rfl) (by exact HLp) (by rfl) (by exact RFp)) ?_ | refine dw_opd rfl rfl rfl (ao_loadV (j := 0) (u := .slice _ _ _) Try.isAgg23 ha rfl rfl (by assumption) rfl) ?_ | refine dw_opd rfl rfl rfl (ao_loadV (j := 1) (u := .slice _ _ _) Try.isAgg23 ha rfl rfl (by assumption) rfl) ?_ | refine dw_opd rfl rfl rfl (ao_loadV (i := 0) (j := 0) (u := .slice _ _ _) Try.isAgg23 ha rfl rfl (by assumption) rfl) ?_ | refine dw_opd rfl rfl rfl (ao_loadV (i := 0) (j := 1) (u := .slice _ _ _) Try.isAgg23 ha rfl rfl (by assumption) rfl) ?_
          first | refine dw_opd rfl rfl rfl (ao_indexAddrS Try.underlying23 Try.sizeOf22 rfl rfl (by exact IXp) (by exact IXp)) ?_ | refine dw_opd rfl rfl rfl (ao_indexV Try.underlying23 Try.sizeOf22 rfl rfl ha (by exact IXp) (by exact IXp)) ?_
          first | refine dw_opd rfl rfl rfl (ao_load (v := .int _ _) Try.isAgg22 (by rfl) (by exact HLp) (by rfl) (by exact RFp)) ?_ | refine dw_opd rfl rfl rfl (ao_loadV (j := 0) (u := .int _ _) Try.isAgg22 ha rfl rfl (by assumption) rfl) ?_ | refine dw_opd rfl rfl rfl (ao_loadV (j := 1) (u := .int _ _) Try.isAgg22 ha rfl rfl (by assumption) rfl) ?_ | refine dw_opd rfl rfl rfl (ao_loadV (i := 0) (j := 0) (u := .int _ _) Try.isAgg22 ha rfl rfl (by assumption) rfl) ?_ | refine dw_opd rfl rfl rfl (ao_loadV (i := 0) (j := 1) (u := .int _ _) Try.isAgg22 ha rfl rfl (by assumption) rfl) ?_
          refine dw_opd rfl rfl rfl (ao_eql rfl rfl) ?_
          refine dw_opd rfl rfl rfl (ao_mv (v := .bool _) rfl) ?_
          refine dw_cases (d := 40) rfl (fun h5_ => ?_) (fun h5_ => ?_)
          · try simp only [nrm] at h5_
            refine dw_gyes rfl rfl rfl rfl rfl (ao_fieldAddr fo_27_1 rfl) ?_
            first | refine dw_gyes rfl rfl rfl rfl rfl (ao_load (v := .slice _ _ _) Try.isAgg23 (by rfl) (by exact HLp) (by rfl) (by exact RFp)) ?_ | refine dw_gyes rfl rfl rfl rfl rfl (ao_load (v := v) Try.isAgg23 (by rfl) (by exact HLp) (by rfl) (by exact RFp)) ?_ | refine dw_gyes rfl rfl rfl rfl rfl (ao_loadV (j := 0) (u := .slice _ _ _) Try.isAgg23 ha rfl rfl (by assumption) rfl) ?_ | refine dw_gyes rfl rfl rfl rfl rfl (ao_loadV (j := 1) (u := .slice _ _ _) Try.isAgg23 ha rfl rfl (by assumption) rfl) ?_ | refine dw_gyes rfl rfl rfl rfl rfl (ao_loadV (i := 0) (j := 0) (u := .slice _ _ _) Try.isAgg23 ha rfl rfl (by assumption) rfl) ?_ | refine dw_gyes rfl rfl rfl rfl rfl (ao_loadV (i := 0) (j := 1) (u := .slice _ _ _) Try.isAgg23 ha rfl rfl (by assumption) rfl) ?_
            refine dw_gyes rfl rfl rfl rfl rfl (ao_fieldAddr fo_27_1 rfl) ?_
            first | refine dw_gyes rfl rfl rfl rfl rfl (ao_load (v := .slice _ _ _) Try.isAgg23 (by rfl) (by exact HLp) (by rfl) (by exact RFp)) ?_ | refine dw_gyes rfl rfl rfl rfl rfl (ao_load (v := v) Try.isAgg23 (by rfl) (by exact HLp) (by rfl) (by exact RFp)) ?_ | refine dw_gyes rfl rfl rfl rfl rfl (ao_loadV (j := 0) (u := .slice _ _ _) Try.isAgg23 ha rfl rfl (by assumption) rfl) ?_ | refine dw_gyes rfl rfl rfl rfl rfl (ao_loadV (j := 1) (u := .slice _ _ _) Try.isAgg23 ha rfl rfl (by assumption) rfl) ?_ | refine dw_gyes rfl rfl rfl rfl rfl (ao_loadV (i := 0) (j := 0) (u := .slice _ _ _) Try.isAgg23 ha rfl rfl (by assumption) rfl) ?_ | refine dw_gyes rfl rfl rfl rfl rfl (ao_loadV (i := 0) (j := 1) (u := .slice _ _ _) Try.isAgg23 ha rfl rfl (by assumption) rfl) ?_
            first | refine dw_gyes rfl rfl rfl rfl rfl (ao_lenS Try.underlying23 (by rfl)) ?_ | refine dw_gyes rfl rfl rfl rfl rfl (ao_lenN Try.underlying23 (by rfl)) ?_ | refine dw_gyes rfl rfl rfl rfl rfl (ao_lenV Try.underlying23 rfl ha) ?_
            refine dw_gyes rfl rfl rfl rfl rfl ((ao_sub rfl rfl).val (subn ks.length (by omega) (by omega))) ?_
            first | refine dw_gyes rfl rfl rfl rfl rfl (ao_indexAddrS Try.underlying23 Try.sizeOf22 rfl rfl (by exact IXp) (by exact IXp)) ?_ | refine dw_gyes rfl rfl rfl rfl rfl (ao_indexV Try.underlying23 Try.sizeOf22 rfl rfl ha (by exact IXp) (by exact IXp)) ?_
            first | refine dw_gyes rfl rfl rfl rfl rfl (ao_load (v := .int _ _) Try.isAgg22 (by rfl) (by exact HLp) (by rfl) (by exact RFp)) ?_ | refine dw_gyes rfl rfl rfl rfl rfl (ao_loadV (j := 0) (u := .int _ _) Try.isAgg22 ha rfl rfl (by assumption) rfl) ?_ | refine dw_gyes rfl rfl rfl rfl rfl (ao_loadV (j := 1) (u := .int _ _) Try.isAgg22 ha rfl rfl (by assumption) rfl) ?_ | refine dw_gyes rfl rfl rfl rfl rfl (ao_loadV (i := 0) (j := 0) (u := .int _ _) Try.isAgg22 ha rfl rfl (by assumption) rfl) ?_ | refine dw_gyes rfl rfl rfl rfl rfl (ao_loadV (i := 0) (j := 1) (u := .int _ _) Try.isAgg22 ha rfl rfl (by assumption) rfl) ?_
            refine dw_gyes rfl rfl rfl rfl rfl (ao_fieldAddr fo_27_0 rfl) ?_
            first | refine dw_gyes rfl rfl rfl rfl rfl (ao_load (v := .int _ _) Try.isAgg22 (by rfl) (by exact HLp) (by rfl) (by exact RFp)) ?_ | refine dw_gyes rfl rfl rfl rfl rfl (ao_loadV (j := 0) (u := .int _ _) Try.isAgg22 ha rfl rfl (by assumption) rfl) ?_ | refine dw_gyes rfl rfl rfl rfl rfl (ao_loadV (j := 1) (u := .int _ _) Try.isAgg22 ha rfl rfl (by assumption) rfl) ?_ | refine dw_gyes rfl rfl rfl rfl rfl (ao_loadV (i := 0) (j := 0) (u := .int _ _) Try.isAgg22 ha rfl rfl (by assumption) rfl) ?_ | refine dw_gyes rfl rfl rfl rfl rfl (ao_loadV (i := 0) (j := 1) (u := .int _ _) Try.isAgg22 ha rfl rfl (by assumption) rfl) ?_
            refine dw_gyes rfl rfl rfl rfl rfl (ao_eql rfl rfl) ?_
            refine dw_opd rfl rfl rfl (ao_pickT rfl (v := .bool _) rfl) ?_
            refine dw_opd rfl rfl rfl (ao_as (v := .bool _) rfl) ?_
            refine dw_end ?_
            refine al_nilT ?_
            refine aw_ret ?_
            refine ends1 rfl (rv_tmp (v := .bool _) rfl) ?_
            exact ⟨beqb hb ⟨fun q => q.2.2.2.2.2.1 _ hz, fun e => ⟨by omega, by omega, by omega, by omega, fun x h => by rw [hx0] at h; cases h; exact h5_, fun x h => by rw [hz] at h; cases h; exact e, fun j x y h1 h2 => hq j x y (by have := (List.getElem?_eq_some_iff.mp h2).1; omega) h1 h2⟩⟩, by exact SMp⟩
          · try simp only [nrm] at h5_
            refine dw_gno rfl rfl rfl rfl rfl rfl ?_
            refine dw_gno rfl rfl rfl rfl rfl rfl ?_
            refine dw_gno rfl rfl rfl rfl rfl rfl ?_
            refine dw_gno rfl rfl rfl rfl rfl rfl ?_
            refine dw_gno rfl rfl rfl rfl rfl rfl ?_
            refine dw_gno rfl rfl rfl rfl rfl rfl ?_
            refine dw_gno rfl rfl rfl rfl rfl rfl ?_
            refine dw_gno rfl rfl rfl rfl rfl rfl ?_
            refine dw_gno rfl rfl rfl rfl rfl rfl ?_
            refine dw_gno rfl rfl rfl rfl rfl rfl ?_
            refine dw_gno rfl rfl rfl rfl rfl rfl ?_
            refine dw_opd rfl rfl rfl (ao_pickF rfl (v := .bool _) rfl) ?_
            refine dw_opd rfl rfl rfl (ao_as (v := .bool _) rfl) ?_
            refine dw_end ?_
            refine al_nilT ?_
            refine aw_ret ?_
            refine ends1 rfl (rv_tmp (v := .bool _) rfl) ?_
            exact ⟨bf hb (by rintro ⟨q1, q2, q3, q4, q5, q6, q7⟩; exact h5_ (q5 _ hx0)), by exact SMp⟩

end Go.Proofs.Ytdcmjbaahcipoaa
