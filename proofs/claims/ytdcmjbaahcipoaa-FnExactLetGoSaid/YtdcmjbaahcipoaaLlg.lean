/- Contracts of the program's functions over abstract heaps. -/
import Derived.Test.YtdcmjbaahcipoaaClear
import Derived.Test.YtdcmjbaahcipoaaLaws
import Derived.Test.YtdcmjbaahcipoaaMark
import Derived.Test.YtdcmjbaahcipoaaLg
namespace Go.Proofs.Ytdcmjbaahcipoaa
open Go Go.AW Go.Proofs
set_option linter.unusedVariables false
set_option linter.unusedSimpArgs false
set_option maxRecDepth 100000
set_option maxHeartbeats 2000000

-- laws.FnExactLetGo
theorem lawLet1_c {L : Int} {v u : Value} {l : List Int} {hs : List Hold} {i : Nat} {H : AHeap} (ha : Sl H i16 1 v l) (hh : Sl H hold 2 u hs) (hl : l.length ≤ 9223372036854775807) (hm : hs.length ≤ 9223372036854775807) (hL : -32768 ≤ L ∧ L ≤ 32767) (hw : holdOk hs) (hv : okRope L l ∧ okHolds l.length hs) (hi : i < hs.length) : ACd Try.prog 4 [.agg #[.int .i16 L, v], u, .int .i64 i] H (.bool true) (H) := by
  have hcl := letL_len hi
  refine ac_gc0 (fun β => VR.plainT β (by first | rfl | simp [plainT, plainV, plain1])) (ac_body Try.func4 rfl Try.ntmps4 rfl ?_)
  refine aw_seq ?_
  refine aw_region ?_
  refine al_opd rfl rfl rfl (ao_boxa (by rfl)) ?_
  refine al_opd rfl rfl rfl (ao_as (v := .bool _) rfl) ?_
  refine al_nilT ?_
  refine aw_seq ?_
  refine aw_region ?_
  refine al_opd rfl rfl rfl (ao_as (v := .int _ _) rfl) ?_
  refine al_nilT ?_
  refine aw_seq ?_
  refine aw_region ?_
  refine al_opd rfl rfl rfl (ao_loada Try.isAgg25 Try.sizeOf25 rfl (by exact HLp) (by rfl) (by exact RFp)) ?_
  refine al_opd rfl rfl rfl (ao_mv (v := .int _ _) rfl) ?_
  refine al_opd rfl rfl rfl (ao_calld (szRope_c (L := L) (v := v) (l := l) (k := 1048576) (ha.mono (by exact SMp)) hl (by omega)) Try.call5 rfl rfl) ?_
  refine al_opd rfl rfl rfl (ao_as (v := .int _ _) rfl) ?_
  refine al_nilT ?_
  refine aw_seq ?_
  refine aw_seq ?_
  refine aw_region ?_
  refine al_opd rfl rfl rfl (ao_mv (v := .int _ _) rfl) ?_
  refine al_opd rfl rfl rfl (ao_lss rfl rfl) ?_
  refine al_nilT ?_
  refine aw_cond rfl (fun h1_ => ?_) (fun h1_ => ?_)
  · try simp only [nrm] at h1_
    refine aw_seq ?_
    refine aw_region ?_
    refine al_opd rfl rfl rfl (ao_as (v := .bool _) rfl) ?_
    refine al_nilT ?_
    refine aw_ret ?_
    refine thenA_r ?_
    refine ends1 rfl (rv_tmp (v := .bool _) rfl) ?_
    exact ⟨by first | rfl | (simp [*]; (first | done | fail)), by exact SMp⟩
  · try simp only [nrm] at h1_
    have hl1 : l.length ≤ 1048576 := by omega
    refine aw_skipT ?_
    refine aw_seq ?_
    refine aw_region ?_
    first | refine al_opd rfl rfl rfl (ao_mv (v := .slice _ _ _) rfl) ?_ | refine al_opd rfl rfl rfl (ao_mv (v := v) rfl) ?_ | refine al_opd rfl rfl rfl (ao_mv (v := u) rfl) ?_
    refine al_opd rfl rfl rfl (ao_mv (v := .int _ _) rfl) ?_
    refine al_opd rfl rfl rfl (ao_calld (szHoldS_c (v := u) (l := hs) (k := if 1048576 - (l.length : Int) < 0 then -1 else 1048576 - l.length) (hh.mono (by exact SMp)) hm (by omega)) Try.call12 rfl rfl) ?_
    refine al_opd rfl rfl rfl (ao_as (v := .int _ _) rfl) ?_
    refine al_nilT ?_
    refine aw_seq ?_
    refine aw_seq ?_
    refine aw_region ?_
    refine al_opd rfl rfl rfl (ao_mv (v := .int _ _) rfl) ?_
    refine al_opd rfl rfl rfl (ao_lss rfl rfl) ?_
    refine al_nilT ?_
    refine aw_cond rfl (fun h2_ => ?_) (fun h2_ => ?_)
    · try simp only [nrm] at h2_
      refine aw_seq ?_
      refine aw_region ?_
      refine al_opd rfl rfl rfl (ao_as (v := .bool _) rfl) ?_
      refine al_nilT ?_
      refine aw_ret ?_
      refine thenA_r ?_
      refine ends1 rfl (rv_tmp (v := .bool _) rfl) ?_
      exact ⟨by first | rfl | (simp [*]; (first | done | fail)), by exact SMp⟩
    · try simp only [nrm] at h2_
      have hm1 : hs.length ≤ 1048576 := by omega
      refine aw_skipT ?_
      refine aw_seq ?_
      refine aw_region ?_
      refine al_opd rfl rfl rfl (ao_loada Try.isAgg25 Try.sizeOf25 rfl (by exact HLp) (by rfl) (by exact RFp)) ?_
      refine al_opd rfl rfl rfl (ao_calld (toRope_c (L := L) (v := v) (l := l) (ha.mono (by exact SMp)) (by omega)) Try.call7 rfl rfl) ?_
      first | refine al_opd rfl rfl rfl (ao_mv (v := .slice _ _ _) rfl) ?_ | refine al_opd rfl rfl rfl (ao_mv (v := v) rfl) ?_ | refine al_opd rfl rfl rfl (ao_mv (v := u) rfl) ?_
      refine al_opd rfl rfl rfl (ao_calld (toHoldS_c (v := u) (l := hs) (hh.mono (by exact SMp)) (by omega)) Try.call14 rfl rfl) ?_
      refine al_opd rfl rfl rfl (ao_mv (v := .int _ _) rfl) ?_
      refine al_opd rfl rfl rfl (ao_calld (specLet1_c (L := L) (ks := l) (hs := hs) (Sl.full i16_len (by exact HLp) rfl rfl rfl) (by exact HLp) (by omega) (by omega) (by omega) hL hw hv hi) Try.call13 rfl rfl) ?_
      refine al_opd rfl rfl rfl (ao_mv (v := .tuple _) rfl) ?_
      first | refine al_opd rfl rfl rfl (ao_extract (v := v) rfl rfl) ?_ | refine al_opd rfl rfl rfl (ao_extract (v := u) rfl rfl) ?_ | refine al_opd rfl rfl rfl (ao_extract (v := .slice _ _ _) rfl rfl) ?_
      refine al_opd rfl rfl rfl (ao_extract (v := .int _ _) rfl rfl) ?_
      first | refine al_opd rfl rfl rfl (ao_as (v := .slice _ _ _) rfl) ?_ | refine al_opd rfl rfl rfl (ao_as (v := v) rfl) ?_ | refine al_opd rfl rfl rfl (ao_as (v := u) rfl) ?_
      refine al_opd rfl rfl rfl (ao_as (v := .int _ _) rfl) ?_
      refine al_nilT ?_
      refine aw_seq ?_
      refine aw_region ?_
      refine al_opd rfl rfl rfl (ao_loada Try.isAgg25 Try.sizeOf25 rfl (by exact HLp) (by rfl) (by exact RFp)) ?_
      refine al_opd rfl rfl rfl (ao_calld (toRope_c (L := L) (v := v) (l := l) (ha.mono (by exact SMp)) (by omega)) Try.call7 rfl rfl) ?_
      refine al_opd rfl rfl rfl (ao_alloca (zv27) (by rfl)) ?_
      first | refine al_opd rfl rfl rfl ((ao_storeL Try.sizeOf27 (by rfl) (by rfl) (by exact HLp) (by exact RFp) (by exact RFp) (by exact RFp)).to (SetR.eq (by exact SRp))) ?_ | refine al_opd rfl rfl rfl ((ao_storeP (ds := [.int _ _, .slice _ _ _]) Try.sizeOf27 (by rfl) (by rfl) (by exact HLp) (by exact RFp) (by exact RFp) (by exact LTp)).to (SetR.eq (by exact SRp))) ?_
      refine al_nilT ?_
      refine aw_seq ?_
      refine aw_region ?_
      first | refine al_opd rfl rfl rfl (ao_mv (v := .slice _ _ _) rfl) ?_ | refine al_opd rfl rfl rfl (ao_mv (v := v) rfl) ?_ | refine al_opd rfl rfl rfl (ao_mv (v := u) rfl) ?_
      refine al_opd rfl rfl rfl (ao_calld (toHoldS_c (v := u) (l := hs) (hh.mono (by exact SMp)) (by omega)) Try.call14 rfl rfl) ?_
      first | refine al_opd rfl rfl rfl (ao_as (v := .slice _ _ _) rfl) ?_ | refine al_opd rfl rfl rfl (ao_as (v := v) rfl) ?_ | refine al_opd rfl rfl rfl (ao_as (v := u) rfl) ?_
      refine al_nilT ?_
      refine aw_seq ?_
      refine aw_region ?_
      refine al_opd rfl rfl rfl (ao_loada Try.isAgg27 Try.sizeOf27 rfl (by exact HLp) (by rfl) (by exact RFp)) ?_
      first | refine al_opd rfl rfl rfl (ao_mv (v := .slice _ _ _) rfl) ?_ | refine al_opd rfl rfl rfl (ao_mv (v := v) rfl) ?_ | refine al_opd rfl rfl rfl (ao_mv (v := u) rfl) ?_
      refine al_opd rfl rfl rfl (ao_mv (v := .int _ _) rfl) ?_
      refine al_opd rfl rfl rfl (ao_calld (implLet1_c (L := L) (ks := l) (hs := hs) (Sl.full i16_len (by exact HLp) rfl rfl rfl) (by exact HLp) (by omega) (by omega) (by omega) hL hw hv hi) Try.call15 rfl rfl) ?_
      refine al_opd rfl rfl rfl (ao_mv (v := .tuple _) rfl) ?_
      first | refine al_opd rfl rfl rfl (ao_extract (v := v) rfl rfl) ?_ | refine al_opd rfl rfl rfl (ao_extract (v := u) rfl rfl) ?_ | refine al_opd rfl rfl rfl (ao_extract (v := .slice _ _ _) rfl rfl) ?_
      refine al_opd rfl rfl rfl (ao_extract (v := .int _ _) rfl rfl) ?_
      first | refine al_opd rfl rfl rfl (ao_as (v := .slice _ _ _) rfl) ?_ | refine al_opd rfl rfl rfl (ao_as (v := v) rfl) ?_ | refine al_opd rfl rfl rfl (ao_as (v := u) rfl) ?_
      refine al_opd rfl rfl rfl (ao_as (v := .int _ _) rfl) ?_
      refine al_nilT ?_
      refine aw_seq ?_
      refine aw_seq ?_
      refine aw_region ?_
      first | refine al_opd rfl rfl rfl (ao_mv (v := .slice _ _ _) rfl) ?_ | refine al_opd rfl rfl rfl (ao_mv (v := v) rfl) ?_ | refine al_opd rfl rfl rfl (ao_mv (v := u) rfl) ?_
      first | refine al_opd rfl rfl rfl (ao_mv (v := .slice _ _ _) rfl) ?_ | refine al_opd rfl rfl rfl (ao_mv (v := v) rfl) ?_ | refine al_opd rfl rfl rfl (ao_mv (v := u) rfl) ?_
      refine al_opd rfl rfl rfl (ao_calld (eqHoldS_c (l := letL hs i) (m := letL hs i) (Sl.full hold_len (by exact HLp) rfl rfl rfl) (Sl.full hold_len (by exact HLp) rfl rfl rfl) (by omega)) Try.call16 rfl rfl) ?_
      refine al_opd rfl rfl rfl (ao_not rfl) ?_
      refine al_opd rfl rfl rfl (ao_mv (v := .bool _) rfl) ?_
      refine al_cases (d := 53) rfl (fun h3_ => ?_) (fun h3_ => ?_)
      · try simp only [nrm] at h3_
        first | done | omega | (exfalso; revert h3_; simp; (first | done | omega))
      try simp only [nrm] at h3_
      refine al_gyes rfl rfl rfl rfl rfl (ao_mv (v := .int _ _) rfl) ?_
      refine al_gyes rfl rfl rfl rfl rfl (ao_mv (v := .int _ _) rfl) ?_
      refine al_gyes rfl rfl rfl rfl rfl (ao_neq rfl rfl) ?_
      refine al_opd rfl rfl rfl (ao_pickF rfl (v := .bool _) rfl) ?_
      refine al_nilT ?_
      refine aw_cond rfl (fun h4_ => ?_) (fun h4_ => ?_)
      · try simp only [nrm] at h4_
        first | done | omega | (exfalso; revert h4_; simp; (first | done | omega))
      try simp only [nrm] at h4_
      refine aw_skipT ?_
      refine aw_seq ?_
      refine aw_seq ?_
      refine aw_draw (m := 5) mo (by kernel_rfl) rfl (fun _ _ _ h => h) ?_
      refine dw_opd rfl rfl rfl (ao_loada Try.isAgg27 Try.sizeOf27 rfl (by exact HLp) (by rfl) (by exact RFp)) ?_
      refine dw_opd rfl rfl rfl (ao_loada Try.isAgg25 Try.sizeOf25 rfl (by exact HLp) (by rfl) (by exact RFp)) ?_
      refine dw_opn rfl rfl rfl (ao_calld (toRope_c (L := L) (v := v) (l := l) (ha.mono (by exact SMp)) (by omega)) Try.call7 rfl rfl) ?_
      refine dw_opd rfl rfl rfl (ao_calld (eqRope_c (L := L) (M := L) (l := l) (m := l) (Sl.full i16_len (by exact HLp) rfl rfl rfl) (Sl.full i16_len (by exact HLp) rfl rfl rfl) (by omega)) Try.call9 rfl rfl) ?_
      refine dw_opd rfl rfl rfl (ao_not rfl) ?_
      refine dw_end ?_
      refine al_nilT ?_
      refine aw_cond rfl (fun h5_ => ?_) (fun h5_ => ?_)
      · try simp only [nrm] at h5_
        first | done | omega | (exfalso; revert h5_; simp; (first | done | omega))
      try simp only [nrm] at h5_
      refine aw_skipT ?_
      refine aw_seq ?_
      refine aw_seq ?_
      refine aw_region ?_
      first | refine al_opd rfl rfl rfl (ao_mv (v := .slice _ _ _) rfl) ?_ | refine al_opd rfl rfl rfl (ao_mv (v := v) rfl) ?_ | refine al_opd rfl rfl rfl (ao_mv (v := u) rfl) ?_
      first | refine al_opd rfl rfl rfl (ao_mv (v := .slice _ _ _) rfl) ?_ | refine al_opd rfl rfl rfl (ao_mv (v := v) rfl) ?_ | refine al_opd rfl rfl rfl (ao_mv (v := u) rfl) ?_
      refine al_opd rfl rfl rfl (ao_calld (toHoldS_c (v := u) (l := hs) (hh.mono (by exact SMp)) (by omega)) Try.call14 rfl rfl) ?_
      refine al_opd rfl rfl rfl (ao_calld (eqHoldS_c (l := hs) (m := hs) (Sl.full hold_len (by exact HLp) rfl rfl rfl) (Sl.full hold_len (by exact HLp) rfl rfl rfl) (by omega)) Try.call16 rfl rfl) ?_
      refine al_opd rfl rfl rfl (ao_not rfl) ?_
      refine al_nilT ?_
      refine aw_cond rfl (fun h6_ => ?_) (fun h6_ => ?_)
      · try simp only [nrm] at h6_
        first | done | omega | (exfalso; revert h6_; simp; (first | done | omega))
      try simp only [nrm] at h6_
      refine aw_skipT ?_
      refine aw_seq ?_
      refine aw_region ?_
      refine al_opd rfl rfl rfl (ao_as (v := .int _ _) rfl) ?_
      refine al_nilT ?_
      refine aw_seq ?_
      refine aw_region ?_
      refine al_opd rfl rfl rfl (ao_loada Try.isAgg27 Try.sizeOf27 rfl (by exact HLp) (by rfl) (by exact RFp)) ?_
      refine al_opd rfl rfl rfl (ao_mv (v := .int _ _) rfl) ?_
      refine al_opd rfl rfl rfl ((ao_calld (markRope_c (L := L) (l := l) (k := 1) (by exact HLp) (by omega) (by omega)) Try.call10 rfl rfl).to (SetR.eq (by exact SRp))) ?_
      refine al_opd rfl rfl rfl (ao_as (v := .int _ _) rfl) ?_
      refine al_nilT ?_
      refine aw_seq ?_
      refine aw_region ?_
      first | refine al_opd rfl rfl rfl (ao_mv (v := .slice _ _ _) rfl) ?_ | refine al_opd rfl rfl rfl (ao_mv (v := v) rfl) ?_ | refine al_opd rfl rfl rfl (ao_mv (v := u) rfl) ?_
      refine al_opd rfl rfl rfl (ao_mv (v := .int _ _) rfl) ?_
      refine al_opd rfl rfl rfl ((ao_calld (mark_hold_c (l := hs) (k := 1 + l.length) (by exact HLp) (by omega) (by omega)) Try.call17 rfl rfl).to (SetR.eq (by exact SRp))) ?_
      refine al_opd rfl rfl rfl (ao_as (v := .int _ _) rfl) ?_
      refine al_nilT ?_
      refine aw_seq ?_
      refine aw_seq ?_
      refine aw_region ?_
      refine al_opd rfl rfl rfl (ao_mv (v := .int _ _) rfl) ?_
      refine al_opd rfl rfl rfl (ao_lss rfl rfl) ?_
      refine al_opd rfl rfl rfl (ao_mv (v := .bool _) rfl) ?_
      refine al_cases (d := 76) rfl (fun h7_ => ?_) (fun h7_ => ?_)
      · try simp only [nrm] at h7_
        first | done | omega | (exfalso; revert h7_; simp; (first | done | omega))
      try simp only [nrm] at h7_
      first | refine al_gyes rfl rfl rfl rfl rfl (ao_mv (v := .slice _ _ _) rfl) ?_ | refine al_gyes rfl rfl rfl rfl rfl (ao_mv (v := v) rfl) ?_ | refine al_gyes rfl rfl rfl rfl rfl (ao_mv (v := u) rfl) ?_
      first | refine al_gyes rfl rfl rfl rfl rfl (ao_mv (v := .slice _ _ _) rfl) ?_ | refine al_gyes rfl rfl rfl rfl rfl (ao_mv (v := v) rfl) ?_ | refine al_gyes rfl rfl rfl rfl rfl (ao_mv (v := u) rfl) ?_
      refine al_gyes rfl rfl rfl rfl rfl (ao_calld (eqHoldS_c (l := letL hs i) (m := letL hs i) (Sl.full hold_len (by exact HLp) rfl rfl rfl) (Sl.full hold_len (by exact HLp) rfl rfl rfl) (by omega)) Try.call16 rfl rfl) ?_
      refine al_gyes rfl rfl rfl rfl rfl (ao_not rfl) ?_
      refine al_opd rfl rfl rfl (ao_pickF rfl (v := .bool _) rfl) ?_
      refine al_opd rfl rfl rfl (ao_mv (v := .bool _) rfl) ?_
      refine al_cases (d := 82) rfl (fun h8_ => ?_) (fun h8_ => ?_)
      · try simp only [nrm] at h8_
        first | done | omega | (exfalso; revert h8_; simp; (first | done | omega))
      try simp only [nrm] at h8_
      refine al_gyes rfl rfl rfl rfl rfl (ao_mv (v := .int _ _) rfl) ?_
      refine al_gyes rfl rfl rfl rfl rfl (ao_mv (v := .int _ _) rfl) ?_
      refine al_gyes rfl rfl rfl rfl rfl (ao_neq rfl rfl) ?_
      refine al_opd rfl rfl rfl (ao_pickF rfl (v := .bool _) rfl) ?_
      refine al_nilT ?_
      refine aw_cond rfl (fun h9_ => ?_) (fun h9_ => ?_)
      · try simp only [nrm] at h9_
        first | done | omega | (exfalso; revert h9_; simp; (first | done | omega))
      try simp only [nrm] at h9_
      refine aw_skipT ?_
      refine aw_seq ?_
      refine aw_region ?_
      refine al_opd rfl rfl rfl (ao_as (v := .int _ _) rfl) ?_
      refine al_nilT ?_
      refine aw_seq ?_
      refine aw_region ?_
      first | refine al_opd rfl rfl rfl (ao_mv (v := .slice _ _ _) rfl) ?_ | refine al_opd rfl rfl rfl (ao_mv (v := v) rfl) ?_ | refine al_opd rfl rfl rfl (ao_mv (v := u) rfl) ?_
      refine al_opd rfl rfl rfl (ao_mv (v := .int _ _) rfl) ?_
      refine al_opd rfl rfl rfl ((ao_calld (mark_hold_c (l := letL hs i) (k := 1) (by exact HLp) (by omega) (by omega)) Try.call17 rfl rfl).to (SetR.eq (by exact SRp))) ?_
      refine al_opd rfl rfl rfl (ao_as (v := .int _ _) rfl) ?_
      refine al_nilT ?_
      refine aw_seq ?_
      refine aw_region ?_
      refine al_opd rfl rfl rfl (ao_as (v := .int _ _) rfl) ?_
      refine al_nilT ?_
      refine aw_seq ?_
      refine aw_region ?_
      first | refine al_opd rfl rfl rfl (ao_mv (v := .slice _ _ _) rfl) ?_ | refine al_opd rfl rfl rfl (ao_mv (v := v) rfl) ?_ | refine al_opd rfl rfl rfl (ao_mv (v := u) rfl) ?_
      refine al_opd rfl rfl rfl (ao_mv (v := .int _ _) rfl) ?_
      refine al_opd rfl rfl rfl (ao_calld (held_hold_c (n := (letL hs i).length) (k := 1) (Sl.full hold_len (by exact HLp) rfl rfl (mkHold_len _ _).symm) (by omega) (by omega)) Try.call18 rfl rfl) ?_
      refine al_opd rfl rfl rfl (ao_as (v := .int _ _) rfl) ?_
      refine al_nilT ?_
      refine aw_seq ?_
      refine aw_seq ?_
      refine aw_region ?_
      refine al_opd rfl rfl rfl (ao_mv (v := .int _ _) rfl) ?_
      refine al_opd rfl rfl rfl (ao_lss rfl rfl) ?_
      refine al_nilT ?_
      refine aw_cond rfl (fun h10_ => ?_) (fun h10_ => ?_)
      · try simp only [nrm] at h10_
        first | done | omega | (exfalso; revert h10_; simp; (first | done | omega))
      try simp only [nrm] at h10_
      refine aw_skipT ?_
      refine aw_seq ?_
      refine aw_seq ?_
      refine aw_region ?_
      refine al_opd rfl rfl rfl (ao_mv (v := .int _ _) rfl) ?_
      refine al_opd rfl rfl rfl (ao_mv (v := .int _ _) rfl) ?_
      refine al_opd rfl rfl rfl (ao_neq rfl rfl) ?_
      refine al_nilT ?_
      refine aw_cond rfl (fun h11_ => ?_) (fun h11_ => ?_)
      · try simp only [nrm] at h11_
        first | done | omega | (exfalso; revert h11_; simp; (first | done | omega))
      try simp only [nrm] at h11_
      refine aw_skipT ?_
      refine aw_seq ?_
      refine aw_region ?_
      refine al_opd rfl rfl rfl (ao_loada Try.isAgg25 Try.sizeOf25 rfl (by exact HLp) (by rfl) (by exact RFp)) ?_
      refine al_opd rfl rfl rfl (ao_calld (toRope_c (L := L) (v := v) (l := l) (ha.mono (by exact SMp)) (by omega)) Try.call7 rfl rfl) ?_
      first | refine al_opd rfl rfl rfl (ao_mv (v := .slice _ _ _) rfl) ?_ | refine al_opd rfl rfl rfl (ao_mv (v := v) rfl) ?_ | refine al_opd rfl rfl rfl (ao_mv (v := u) rfl) ?_
      refine al_opd rfl rfl rfl (ao_calld (toHoldS_c (v := u) (l := hs) (hh.mono (by exact SMp)) (by omega)) Try.call14 rfl rfl) ?_
      refine al_opd rfl rfl rfl (ao_mv (v := .int _ _) rfl) ?_
      refine al_opd rfl rfl rfl (ao_calld (implLet1_c (L := L) (ks := l) (hs := hs) (Sl.full i16_len (by exact HLp) rfl rfl rfl) (by exact HLp) (by omega) (by omega) (by omega) hL hw hv hi) Try.call15 rfl rfl) ?_
      refine al_opd rfl rfl rfl (ao_mv (v := .tuple _) rfl) ?_
      first | refine al_opd rfl rfl rfl (ao_extract (v := v) rfl rfl) ?_ | refine al_opd rfl rfl rfl (ao_extract (v := u) rfl rfl) ?_ | refine al_opd rfl rfl rfl (ao_extract (v := .slice _ _ _) rfl rfl) ?_
      refine al_opd rfl rfl rfl (ao_extract (v := .int _ _) rfl rfl) ?_
      first | refine al_opd rfl rfl rfl (ao_as (v := .slice _ _ _) rfl) ?_ | refine al_opd rfl rfl rfl (ao_as (v := v) rfl) ?_ | refine al_opd rfl rfl rfl (ao_as (v := u) rfl) ?_
      refine al_opd rfl rfl rfl (ao_as (v := .int _ _) rfl) ?_
      refine al_nilT ?_
      refine aw_seq ?_
      refine aw_seq ?_
      refine aw_region ?_
      first | refine al_opd rfl rfl rfl (ao_mv (v := .slice _ _ _) rfl) ?_ | refine al_opd rfl rfl rfl (ao_mv (v := v) rfl) ?_ | refine al_opd rfl rfl rfl (ao_mv (v := u) rfl) ?_
      first | refine al_opd rfl rfl rfl (ao_mv (v := .slice _ _ _) rfl) ?_ | refine al_opd rfl rfl rfl (ao_mv (v := v) rfl) ?_ | refine al_opd rfl rfl rfl (ao_mv (v := u) rfl) ?_
      refine al_opd rfl rfl rfl (ao_calld (eqHoldS_c (l := letL hs i) (m := letL hs i) (Sl.full hold_len (by exact HLp) rfl rfl rfl) (Sl.full hold_len (by exact HLp) rfl rfl rfl) (by omega)) Try.call16 rfl rfl) ?_
      refine al_opd rfl rfl rfl (ao_not rfl) ?_
      refine al_opd rfl rfl rfl (ao_mv (v := .bool _) rfl) ?_
      refine al_cases (d := 111) rfl (fun h12_ => ?_) (fun h12_ => ?_)
      · try simp only [nrm] at h12_
        first | done | omega | (exfalso; revert h12_; simp; (first | done | omega))
      try simp only [nrm] at h12_
      refine al_gyes rfl rfl rfl rfl rfl (ao_mv (v := .int _ _) rfl) ?_
      refine al_gyes rfl rfl rfl rfl rfl (ao_mv (v := .int _ _) rfl) ?_
      refine al_gyes rfl rfl rfl rfl rfl (ao_neq rfl rfl) ?_
      refine al_opd rfl rfl rfl (ao_pickF rfl (v := .bool _) rfl) ?_
      refine al_nilT ?_
      refine aw_cond rfl (fun h13_ => ?_) (fun h13_ => ?_)
      · try simp only [nrm] at h13_
        first | done | omega | (exfalso; revert h13_; simp; (first | done | omega))
      try simp only [nrm] at h13_
      refine aw_skipT ?_
      refine aw_seq ?_
      refine aw_region ?_
      refine al_opd rfl rfl rfl (ao_as (v := .int _ _) rfl) ?_
      refine al_nilT ?_
      refine aw_seq ?_
      refine aw_region ?_
      first | refine al_opd rfl rfl rfl (ao_mv (v := .slice _ _ _) rfl) ?_ | refine al_opd rfl rfl rfl (ao_mv (v := v) rfl) ?_ | refine al_opd rfl rfl rfl (ao_mv (v := u) rfl) ?_
      refine al_opd rfl rfl rfl (ao_mv (v := .int _ _) rfl) ?_
      refine al_opd rfl rfl rfl (ao_calld (held_hold_c (n := (letL hs i).length) (k := 1) (Sl.full hold_len (by exact HLp) rfl rfl (mkHold_len _ _).symm) (by omega) (by omega)) Try.call18 rfl rfl) ?_
      refine al_opd rfl rfl rfl (ao_as (v := .int _ _) rfl) ?_
      refine al_nilT ?_
      refine aw_seq ?_
      refine aw_seq ?_
      refine aw_region ?_
      refine al_opd rfl rfl rfl (ao_mv (v := .int _ _) rfl) ?_
      refine al_opd rfl rfl rfl (ao_lss rfl rfl) ?_
      refine al_nilT ?_
      refine aw_cond rfl (fun h14_ => ?_) (fun h14_ => ?_)
      · try simp only [nrm] at h14_
        first | done | omega | (exfalso; revert h14_; simp; (first | done | omega))
      try simp only [nrm] at h14_
      refine aw_skipT ?_
      refine aw_seq ?_
      refine aw_seq ?_
      refine aw_region ?_
      refine al_opd rfl rfl rfl (ao_mv (v := .int _ _) rfl) ?_
      refine al_opd rfl rfl rfl (ao_mv (v := .int _ _) rfl) ?_
      refine al_opd rfl rfl rfl (ao_neq rfl rfl) ?_
      refine al_nilT ?_
      refine aw_cond rfl (fun h15_ => ?_) (fun h15_ => ?_)
      · try simp only [nrm] at h15_
        first | done | omega | (exfalso; revert h15_; simp; (first | done | omega))
      try simp only [nrm] at h15_
      refine aw_skipT ?_
      refine aw_seq ?_
      refine aw_region ?_
      refine al_opd rfl rfl rfl (ao_as (v := .bool _) rfl) ?_
      refine al_nilT ?_
      refine aw_ret ?_
      refine ends1 rfl (rv_tmp (v := .bool _) rfl) ?_
      exact ⟨by first | rfl | (simp [*]; (first | done | fail)), by exact SMp⟩

-- laws.FnExactLetGo
theorem lawLet0_c {L : Int} {v u : Value} {l : List Int} {hs : List Hold} {m : Int} {H : AHeap} (ha : Sl H i16 1 v l) (hh : Sl H hold 2 u hs) (hl : l.length ≤ 9223372036854775807) (hm : hs.length ≤ 9223372036854775807) (hL : -32768 ≤ L ∧ L ≤ 32767) (hw : holdOk hs) (hv : ¬ (okRope L l ∧ okHolds l.length hs)) : ACd Try.prog 4 [.agg #[.int .i16 L, v], u, .int .i64 m] H (.bool true) (H) := by
  refine ac_gc0 (fun β => VR.plainT β (by first | rfl | simp [plainT, plainV, plain1])) (ac_body Try.func4 rfl Try.ntmps4 rfl ?_)
  refine aw_seq ?_
  refine aw_region ?_
  refine al_opd rfl rfl rfl (ao_boxa (by rfl)) ?_
  refine al_opd rfl rfl rfl (ao_as (v := .bool _) rfl) ?_
  refine al_nilT ?_
  refine aw_seq ?_
  refine aw_region ?_
  refine al_opd rfl rfl rfl (ao_as (v := .int _ _) rfl) ?_
  refine al_nilT ?_
  refine aw_seq ?_
  refine aw_region ?_
  refine al_opd rfl rfl rfl (ao_loada Try.isAgg25 Try.sizeOf25 rfl (by exact HLp) (by rfl) (by exact RFp)) ?_
  refine al_opd rfl rfl rfl (ao_mv (v := .int _ _) rfl) ?_
  refine al_opd rfl rfl rfl (ao_calld (szRope_c (L := L) (v := v) (l := l) (k := 1048576) (ha.mono (by exact SMp)) hl (by omega)) Try.call5 rfl rfl) ?_
  refine al_opd rfl rfl rfl (ao_as (v := .int _ _) rfl) ?_
  refine al_nilT ?_
  refine aw_seq ?_
  refine aw_seq ?_
  refine aw_region ?_
  refine al_opd rfl rfl rfl (ao_mv (v := .int _ _) rfl) ?_
  refine al_opd rfl rfl rfl (ao_lss rfl rfl) ?_
  refine al_nilT ?_
  refine aw_cond rfl (fun h1_ => ?_) (fun h1_ => ?_)
  · try simp only [nrm] at h1_
    refine aw_seq ?_
    refine aw_region ?_
    refine al_opd rfl rfl rfl (ao_as (v := .bool _) rfl) ?_
    refine al_nilT ?_
    refine aw_ret ?_
    refine thenA_r ?_
    refine ends1 rfl (rv_tmp (v := .bool _) rfl) ?_
    exact ⟨by first | rfl | (simp [*]; (first | done | fail)), by exact SMp⟩
  · try simp only [nrm] at h1_
    have hl1 : l.length ≤ 1048576 := by omega
    refine aw_skipT ?_
    refine aw_seq ?_
    refine aw_region ?_
    first | refine al_opd rfl rfl rfl (ao_mv (v := .slice _ _ _) rfl) ?_ | refine al_opd rfl rfl rfl (ao_mv (v := v) rfl) ?_ | refine al_opd rfl rfl rfl (ao_mv (v := u) rfl) ?_
    refine al_opd rfl rfl rfl (ao_mv (v := .int _ _) rfl) ?_
    refine al_opd rfl rfl rfl (ao_calld (szHoldS_c (v := u) (l := hs) (k := if 1048576 - (l.length : Int) < 0 then -1 else 1048576 - l.length) (hh.mono (by exact SMp)) hm (by omega)) Try.call12 rfl rfl) ?_
    refine al_opd rfl rfl rfl (ao_as (v := .int _ _) rfl) ?_
    refine al_nilT ?_
    refine aw_seq ?_
    refine aw_seq ?_
    refine aw_region ?_
    refine al_opd rfl rfl rfl (ao_mv (v := .int _ _) rfl) ?_
    refine al_opd rfl rfl rfl (ao_lss rfl rfl) ?_
    refine al_nilT ?_
    refine aw_cond rfl (fun h2_ => ?_) (fun h2_ => ?_)
    · try simp only [nrm] at h2_
      refine aw_seq ?_
      refine aw_region ?_
      refine al_opd rfl rfl rfl (ao_as (v := .bool _) rfl) ?_
      refine al_nilT ?_
      refine aw_ret ?_
      refine thenA_r ?_
      refine ends1 rfl (rv_tmp (v := .bool _) rfl) ?_
      exact ⟨by first | rfl | (simp [*]; (first | done | fail)), by exact SMp⟩
    · try simp only [nrm] at h2_
      have hm1 : hs.length ≤ 1048576 := by omega
      refine aw_skipT ?_
      refine aw_seq ?_
      refine aw_region ?_
      refine al_opd rfl rfl rfl (ao_loada Try.isAgg25 Try.sizeOf25 rfl (by exact HLp) (by rfl) (by exact RFp)) ?_
      refine al_opd rfl rfl rfl (ao_calld (toRope_c (L := L) (v := v) (l := l) (ha.mono (by exact SMp)) (by omega)) Try.call7 rfl rfl) ?_
      first | refine al_opd rfl rfl rfl (ao_mv (v := .slice _ _ _) rfl) ?_ | refine al_opd rfl rfl rfl (ao_mv (v := v) rfl) ?_ | refine al_opd rfl rfl rfl (ao_mv (v := u) rfl) ?_
      refine al_opd rfl rfl rfl (ao_calld (toHoldS_c (v := u) (l := hs) (hh.mono (by exact SMp)) (by omega)) Try.call14 rfl rfl) ?_
      refine al_opd rfl rfl rfl (ao_mv (v := .int _ _) rfl) ?_
      refine al_opd rfl rfl rfl (ao_calld (specLet0_c (L := L) (ks := l) (hs := hs) (Sl.full i16_len (by exact HLp) rfl rfl rfl) (by exact HLp) (by omega) (by omega) (by omega) hL hw hv) Try.call13 rfl rfl) ?_
      refine al_opd rfl rfl rfl (ao_mv (v := .tuple _) rfl) ?_
      first | refine al_opd rfl rfl rfl (ao_extract (v := v) rfl rfl) ?_ | refine al_opd rfl rfl rfl (ao_extract (v := u) rfl rfl) ?_ | refine al_opd rfl rfl rfl (ao_extract (v := .slice _ _ _) rfl rfl) ?_
      refine al_opd rfl rfl rfl (ao_extract (v := .int _ _) rfl rfl) ?_
      first | refine al_opd rfl rfl rfl (ao_as (v := .slice _ _ _) rfl) ?_ | refine al_opd rfl rfl rfl (ao_as (v := v) rfl) ?_ | refine al_opd rfl rfl rfl (ao_as (v := u) rfl) ?_
      refine al_opd rfl rfl rfl (ao_as (v := .int _ _) rfl) ?_
      refine al_nilT ?_
      refine aw_seq ?_
      refine aw_region ?_
      refine al_opd rfl rfl rfl (ao_loada Try.isAgg25 Try.sizeOf25 rfl (by exact HLp) (by rfl) (by exact RFp)) ?_
      refine al_opd rfl rfl rfl (ao_calld (toRope_c (L := L) (v := v) (l := l) (ha.mono (by exact SMp)) (by omega)) Try.call7 rfl rfl) ?_
      refine al_opd rfl rfl rfl (ao_alloca (zv27) (by rfl)) ?_
      first | refine al_opd rfl rfl rfl ((ao_storeL Try.sizeOf27 (by rfl) (by rfl) (by exact HLp) (by exact RFp) (by exact RFp) (by exact RFp)).to (SetR.eq (by exact SRp))) ?_ | refine al_opd rfl rfl rfl ((ao_storeP (ds := [.int _ _, .slice _ _ _]) Try.sizeOf27 (by rfl) (by rfl) (by exact HLp) (by exact RFp) (by exact RFp) (by exact LTp)).to (SetR.eq (by exact SRp))) ?_
      refine al_nilT ?_
      refine aw_seq ?_
      refine aw_region ?_
      first | refine al_opd rfl rfl rfl (ao_mv (v := .slice _ _ _) rfl) ?_ | refine al_opd rfl rfl rfl (ao_mv (v := v) rfl) ?_ | refine al_opd rfl rfl rfl (ao_mv (v := u) rfl) ?_
      refine al_opd rfl rfl rfl (ao_calld (toHoldS_c (v := u) (l := hs) (hh.mono (by exact SMp)) (by omega)) Try.call14 rfl rfl) ?_
      first | refine al_opd rfl rfl rfl (ao_as (v := .slice _ _ _) rfl) ?_ | refine al_opd rfl rfl rfl (ao_as (v := v) rfl) ?_ | refine al_opd rfl rfl rfl (ao_as (v := u) rfl) ?_
      refine al_nilT ?_
      refine aw_seq ?_
      refine aw_region ?_
      refine al_opd rfl rfl rfl (ao_loada Try.isAgg27 Try.sizeOf27 rfl (by exact HLp) (by rfl) (by exact RFp)) ?_
      first | refine al_opd rfl rfl rfl (ao_mv (v := .slice _ _ _) rfl) ?_ | refine al_opd rfl rfl rfl (ao_mv (v := v) rfl) ?_ | refine al_opd rfl rfl rfl (ao_mv (v := u) rfl) ?_
      refine al_opd rfl rfl rfl (ao_mv (v := .int _ _) rfl) ?_
      refine al_opd rfl rfl rfl (ao_calld (implLet0_c (L := L) (ks := l) (hs := hs) (Sl.full i16_len (by exact HLp) rfl rfl rfl) (by exact HLp) (by omega) (by omega) (by omega) hL hw hv) Try.call15 rfl rfl) ?_
      refine al_opd rfl rfl rfl (ao_mv (v := .tuple _) rfl) ?_
      first | refine al_opd rfl rfl rfl (ao_extract (v := v) rfl rfl) ?_ | refine al_opd rfl rfl rfl (ao_extract (v := u) rfl rfl) ?_ | refine al_opd rfl rfl rfl (ao_extract (v := .slice _ _ _) rfl rfl) ?_
      refine al_opd rfl rfl rfl (ao_extract (v := .int _ _) rfl rfl) ?_
      first | refine al_opd rfl rfl rfl (ao_as (v := .slice _ _ _) rfl) ?_ | refine al_opd rfl rfl rfl (ao_as (v := v) rfl) ?_ | refine al_opd rfl rfl rfl (ao_as (v := u) rfl) ?_
      refine al_opd rfl rfl rfl (ao_as (v := .int _ _) rfl) ?_
      refine al_nilT ?_
      refine aw_seq ?_
      refine aw_seq ?_
      refine aw_region ?_
      first | refine al_opd rfl rfl rfl (ao_mv (v := .slice _ _ _) rfl) ?_ | refine al_opd rfl rfl rfl (ao_mv (v := v) rfl) ?_ | refine al_opd rfl rfl rfl (ao_mv (v := u) rfl) ?_
      first | refine al_opd rfl rfl rfl (ao_mv (v := .slice _ _ _) rfl) ?_ | refine al_opd rfl rfl rfl (ao_mv (v := v) rfl) ?_ | refine al_opd rfl rfl rfl (ao_mv (v := u) rfl) ?_
      refine al_opd rfl rfl rfl (ao_calld (eqHoldS_c (l := []) (m := []) Sl.nil Sl.zero (by simp)) Try.call16 rfl rfl) ?_
      refine al_opd rfl rfl rfl (ao_not rfl) ?_
      refine al_opd rfl rfl rfl (ao_mv (v := .bool _) rfl) ?_
      refine al_cases (d := 53) rfl (fun h3_ => ?_) (fun h3_ => ?_)
      · try simp only [nrm] at h3_
        first | done | omega | (exfalso; revert h3_; simp; (first | done | omega))
      try simp only [nrm] at h3_
      refine al_gyes rfl rfl rfl rfl rfl (ao_mv (v := .int _ _) rfl) ?_
      refine al_gyes rfl rfl rfl rfl rfl (ao_mv (v := .int _ _) rfl) ?_
      refine al_gyes rfl rfl rfl rfl rfl (ao_neq rfl rfl) ?_
      refine al_opd rfl rfl rfl (ao_pickF rfl (v := .bool _) rfl) ?_
      refine al_nilT ?_
      refine aw_cond rfl (fun h4_ => ?_) (fun h4_ => ?_)
      · try simp only [nrm] at h4_
        first | done | omega | (exfalso; revert h4_; simp; (first | done | omega))
      try simp only [nrm] at h4_
      refine aw_skipT ?_
      refine aw_seq ?_
      refine aw_seq ?_
      refine aw_draw (m := 5) mo (by kernel_rfl) rfl (fun _ _ _ h => h) ?_
      refine dw_opd rfl rfl rfl (ao_loada Try.isAgg27 Try.sizeOf27 rfl (by exact HLp) (by rfl) (by exact RFp)) ?_
      refine dw_opd rfl rfl rfl (ao_loada Try.isAgg25 Try.sizeOf25 rfl (by exact HLp) (by rfl) (by exact RFp)) ?_
      refine dw_opn rfl rfl rfl (ao_calld (toRope_c (L := L) (v := v) (l := l) (ha.mono (by exact SMp)) (by omega)) Try.call7 rfl rfl) ?_
      refine dw_opd rfl rfl rfl (ao_calld (eqRope_c (L := L) (M := L) (l := l) (m := l) (Sl.full i16_len (by exact HLp) rfl rfl rfl) (Sl.full i16_len (by exact HLp) rfl rfl rfl) (by omega)) Try.call9 rfl rfl) ?_
      refine dw_opd rfl rfl rfl (ao_not rfl) ?_
      refine dw_end ?_
      refine al_nilT ?_
      refine aw_cond rfl (fun h5_ => ?_) (fun h5_ => ?_)
      · try simp only [nrm] at h5_
        first | done | omega | (exfalso; revert h5_; simp; (first | done | omega))
      try simp only [nrm] at h5_
      refine aw_skipT ?_
      refine aw_seq ?_
      refine aw_seq ?_
      refine aw_region ?_
      first | refine al_opd rfl rfl rfl (ao_mv (v := .slice _ _ _) rfl) ?_ | refine al_opd rfl rfl rfl (ao_mv (v := v) rfl) ?_ | refine al_opd rfl rfl rfl (ao_mv (v := u) rfl) ?_
      first | refine al_opd rfl rfl rfl (ao_mv (v := .slice _ _ _) rfl) ?_ | refine al_opd rfl rfl rfl (ao_mv (v := v) rfl) ?_ | refine al_opd rfl rfl rfl (ao_mv (v := u) rfl) ?_
      refine al_opd rfl rfl rfl (ao_calld (toHoldS_c (v := u) (l := hs) (hh.mono (by exact SMp)) (by omega)) Try.call14 rfl rfl) ?_
      refine al_opd rfl rfl rfl (ao_calld (eqHoldS_c (l := hs) (m := hs) (Sl.full hold_len (by exact HLp) rfl rfl rfl) (Sl.full hold_len (by exact HLp) rfl rfl rfl) (by omega)) Try.call16 rfl rfl) ?_
      refine al_opd rfl rfl rfl (ao_not rfl) ?_
      refine al_nilT ?_
      refine aw_cond rfl (fun h6_ => ?_) (fun h6_ => ?_)
      · try simp only [nrm] at h6_
        first | done | omega | (exfalso; revert h6_; simp; (first | done | omega))
      try simp only [nrm] at h6_
      refine aw_skipT ?_
      refine aw_seq ?_
      refine aw_region ?_
      refine al_opd rfl rfl rfl (ao_as (v := .int _ _) rfl) ?_
      refine al_nilT ?_
      refine aw_seq ?_
      refine aw_region ?_
      refine al_opd rfl rfl rfl (ao_loada Try.isAgg27 Try.sizeOf27 rfl (by exact HLp) (by rfl) (by exact RFp)) ?_
      refine al_opd rfl rfl rfl (ao_mv (v := .int _ _) rfl) ?_
      refine al_opd rfl rfl rfl ((ao_calld (markRope_c (L := L) (l := l) (k := 1) (by exact HLp) (by omega) (by omega)) Try.call10 rfl rfl).to (SetR.eq (by exact SRp))) ?_
      refine al_opd rfl rfl rfl (ao_as (v := .int _ _) rfl) ?_
      refine al_nilT ?_
      refine aw_seq ?_
      refine aw_region ?_
      first | refine al_opd rfl rfl rfl (ao_mv (v := .slice _ _ _) rfl) ?_ | refine al_opd rfl rfl rfl (ao_mv (v := v) rfl) ?_ | refine al_opd rfl rfl rfl (ao_mv (v := u) rfl) ?_
      refine al_opd rfl rfl rfl (ao_mv (v := .int _ _) rfl) ?_
      refine al_opd rfl rfl rfl ((ao_calld (mark_hold_c (l := hs) (k := 1 + l.length) (by exact HLp) (by omega) (by omega)) Try.call17 rfl rfl).to (SetR.eq (by exact SRp))) ?_
      refine al_opd rfl rfl rfl (ao_as (v := .int _ _) rfl) ?_
      refine al_nilT ?_
      refine aw_seq ?_
      refine aw_seq ?_
      refine aw_region ?_
      refine al_opd rfl rfl rfl (ao_mv (v := .int _ _) rfl) ?_
      refine al_opd rfl rfl rfl (ao_lss rfl rfl) ?_
      refine al_opd rfl rfl rfl (ao_mv (v := .bool _) rfl) ?_
      refine al_cases (d := 76) rfl (fun h7_ => ?_) (fun h7_ => ?_)
      · try simp only [nrm] at h7_
        first | done | omega | (exfalso; revert h7_; simp; (first | done | omega))
      try simp only [nrm] at h7_
      first | refine al_gyes rfl rfl rfl rfl rfl (ao_mv (v := .slice _ _ _) rfl) ?_ | refine al_gyes rfl rfl rfl rfl rfl (ao_mv (v := v) rfl) ?_ | refine al_gyes rfl rfl rfl rfl rfl (ao_mv (v := u) rfl) ?_
      first | refine al_gyes rfl rfl rfl rfl rfl (ao_mv (v := .slice _ _ _) rfl) ?_ | refine al_gyes rfl rfl rfl rfl rfl (ao_mv (v := v) rfl) ?_ | refine al_gyes rfl rfl rfl rfl rfl (ao_mv (v := u) rfl) ?_
      refine al_gyes rfl rfl rfl rfl rfl (ao_calld (eqHoldS_c (l := []) (m := []) Sl.nil Sl.zero (by simp)) Try.call16 rfl rfl) ?_
      refine al_gyes rfl rfl rfl rfl rfl (ao_not rfl) ?_
      refine al_opd rfl rfl rfl (ao_pickF rfl (v := .bool _) rfl) ?_
      refine al_opd rfl rfl rfl (ao_mv (v := .bool _) rfl) ?_
      refine al_cases (d := 82) rfl (fun h8_ => ?_) (fun h8_ => ?_)
      · try simp only [nrm] at h8_
        first | done | omega | (exfalso; revert h8_; simp; (first | done | omega))
      try simp only [nrm] at h8_
      refine al_gyes rfl rfl rfl rfl rfl (ao_mv (v := .int _ _) rfl) ?_
      refine al_gyes rfl rfl rfl rfl rfl (ao_mv (v := .int _ _) rfl) ?_
      refine al_gyes rfl rfl rfl rfl rfl (ao_neq rfl rfl) ?_
      refine al_opd rfl rfl rfl (ao_pickF rfl (v := .bool _) rfl) ?_
      refine al_nilT ?_
      refine aw_cond rfl (fun h9_ => ?_) (fun h9_ => ?_)
      · try simp only [nrm] at h9_
        first | done | omega | (exfalso; revert h9_; simp; (first | done | omega))
      try simp only [nrm] at h9_
      refine aw_skipT ?_
      refine aw_seq ?_
      refine aw_region ?_
      refine al_opd rfl rfl rfl (ao_as (v := .int _ _) rfl) ?_
      refine al_nilT ?_
      refine aw_seq ?_
      refine aw_region ?_
      first | refine al_opd rfl rfl rfl (ao_mv (v := .slice _ _ _) rfl) ?_ | refine al_opd rfl rfl rfl (ao_mv (v := v) rfl) ?_ | refine al_opd rfl rfl rfl (ao_mv (v := u) rfl) ?_
      refine al_opd rfl rfl rfl (ao_mv (v := .int _ _) rfl) ?_
      refine al_opd rfl rfl rfl (ao_calld (mark0_hold_c (k := 1)) Try.call17 rfl rfl) ?_
      refine al_opd rfl rfl rfl (ao_as (v := .int _ _) rfl) ?_
      refine al_nilT ?_
      refine aw_seq ?_
      refine aw_region ?_
      refine al_opd rfl rfl rfl (ao_as (v := .int _ _) rfl) ?_
      refine al_nilT ?_
      refine aw_seq ?_
      refine aw_region ?_
      first | refine al_opd rfl rfl rfl (ao_mv (v := .slice _ _ _) rfl) ?_ | refine al_opd rfl rfl rfl (ao_mv (v := v) rfl) ?_ | refine al_opd rfl rfl rfl (ao_mv (v := u) rfl) ?_
      refine al_opd rfl rfl rfl (ao_mv (v := .int _ _) rfl) ?_
      refine al_opd rfl rfl rfl (ao_calld (held_hold_c (n := 0) (k := 1) Sl.nil (by omega) (by omega)) Try.call18 rfl rfl) ?_
      refine al_opd rfl rfl rfl (ao_as (v := .int _ _) rfl) ?_
      refine al_nilT ?_
      refine aw_seq ?_
      refine aw_seq ?_
      refine aw_region ?_
      refine al_opd rfl rfl rfl (ao_mv (v := .int _ _) rfl) ?_
      refine al_opd rfl rfl rfl (ao_lss rfl rfl) ?_
      refine al_nilT ?_
      refine aw_cond rfl (fun h10_ => ?_) (fun h10_ => ?_)
      · try simp only [nrm] at h10_
        first | done | omega | (exfalso; revert h10_; simp; (first | done | omega))
      try simp only [nrm] at h10_
      refine aw_skipT ?_
      refine aw_seq ?_
      refine aw_seq ?_
      refine aw_region ?_
      refine al_opd rfl rfl rfl (ao_mv (v := .int _ _) rfl) ?_
      refine al_opd rfl rfl rfl (ao_mv (v := .int _ _) rfl) ?_
      refine al_opd rfl rfl rfl (ao_neq rfl rfl) ?_
      refine al_nilT ?_
      refine aw_cond rfl (fun h11_ => ?_) (fun h11_ => ?_)
      · try simp only [nrm] at h11_
        first | done | omega | (exfalso; revert h11_; simp; (first | done | omega))
      try simp only [nrm] at h11_
      refine aw_skipT ?_
      refine aw_seq ?_
      refine aw_region ?_
      refine al_opd rfl rfl rfl (ao_loada Try.isAgg25 Try.sizeOf25 rfl (by exact HLp) (by rfl) (by exact RFp)) ?_
      refine al_opd rfl rfl rfl (ao_calld (toRope_c (L := L) (v := v) (l := l) (ha.mono (by exact SMp)) (by omega)) Try.call7 rfl rfl) ?_
      first | refine al_opd rfl rfl rfl (ao_mv (v := .slice _ _ _) rfl) ?_ | refine al_opd rfl rfl rfl (ao_mv (v := v) rfl) ?_ | refine al_opd rfl rfl rfl (ao_mv (v := u) rfl) ?_
      refine al_opd rfl rfl rfl (ao_calld (toHoldS_c (v := u) (l := hs) (hh.mono (by exact SMp)) (by omega)) Try.call14 rfl rfl) ?_
      refine al_opd rfl rfl rfl (ao_mv (v := .int _ _) rfl) ?_
      refine al_opd rfl rfl rfl (ao_calld (implLet0_c (L := L) (ks := l) (hs := hs) (Sl.full i16_len (by exact HLp) rfl rfl rfl) (by exact HLp) (by omega) (by omega) (by omega) hL hw hv) Try.call15 rfl rfl) ?_
      refine al_opd rfl rfl rfl (ao_mv (v := .tuple _) rfl) ?_
      first | refine al_opd rfl rfl rfl (ao_extract (v := v) rfl rfl) ?_ | refine al_opd rfl rfl rfl (ao_extract (v := u) rfl rfl) ?_ | refine al_opd rfl rfl rfl (ao_extract (v := .slice _ _ _) rfl rfl) ?_
      refine al_opd rfl rfl rfl (ao_extract (v := .int _ _) rfl rfl) ?_
      first | refine al_opd rfl rfl rfl (ao_as (v := .slice _ _ _) rfl) ?_ | refine al_opd rfl rfl rfl (ao_as (v := v) rfl) ?_ | refine al_opd rfl rfl rfl (ao_as (v := u) rfl) ?_
      refine al_opd rfl rfl rfl (ao_as (v := .int _ _) rfl) ?_
      refine al_nilT ?_
      refine aw_seq ?_
      refine aw_seq ?_
      refine aw_region ?_
      first | refine al_opd rfl rfl rfl (ao_mv (v := .slice _ _ _) rfl) ?_ | refine al_opd rfl rfl rfl (ao_mv (v := v) rfl) ?_ | refine al_opd rfl rfl rfl (ao_mv (v := u) rfl) ?_
      first | refine al_opd rfl rfl rfl (ao_mv (v := .slice _ _ _) rfl) ?_ | refine al_opd rfl rfl rfl (ao_mv (v := v) rfl) ?_ | refine al_opd rfl rfl rfl (ao_mv (v := u) rfl) ?_
      refine al_opd rfl rfl rfl (ao_calld (eqHoldS_c (l := []) (m := []) Sl.nil Sl.zero (by simp)) Try.call16 rfl rfl) ?_
      refine al_opd rfl rfl rfl (ao_not rfl) ?_
      refine al_opd rfl rfl rfl (ao_mv (v := .bool _) rfl) ?_
      refine al_cases (d := 111) rfl (fun h12_ => ?_) (fun h12_ => ?_)
      · try simp only [nrm] at h12_
        first | done | omega | (exfalso; revert h12_; simp; (first | done | omega))
      try simp only [nrm] at h12_
      refine al_gyes rfl rfl rfl rfl rfl (ao_mv (v := .int _ _) rfl) ?_
      refine al_gyes rfl rfl rfl rfl rfl (ao_mv (v := .int _ _) rfl) ?_
      refine al_gyes rfl rfl rfl rfl rfl (ao_neq rfl rfl) ?_
      refine al_opd rfl rfl rfl (ao_pickF rfl (v := .bool _) rfl) ?_
      refine al_nilT ?_
      refine aw_cond rfl (fun h13_ => ?_) (fun h13_ => ?_)
      · try simp only [nrm] at h13_
        first | done | omega | (exfalso; revert h13_; simp; (first | done | omega))
      try simp only [nrm] at h13_
      refine aw_skipT ?_
      refine aw_seq ?_
      refine aw_region ?_
      refine al_opd rfl rfl rfl (ao_as (v := .int _ _) rfl) ?_
      refine al_nilT ?_
      refine aw_seq ?_
      refine aw_region ?_
      first | refine al_opd rfl rfl rfl (ao_mv (v := .slice _ _ _) rfl) ?_ | refine al_opd rfl rfl rfl (ao_mv (v := v) rfl) ?_ | refine al_opd rfl rfl rfl (ao_mv (v := u) rfl) ?_
      refine al_opd rfl rfl rfl (ao_mv (v := .int _ _) rfl) ?_
      refine al_opd rfl rfl rfl (ao_calld (held_hold_c (n := 0) (k := 1) Sl.nil (by omega) (by omega)) Try.call18 rfl rfl) ?_
      refine al_opd rfl rfl rfl (ao_as (v := .int _ _) rfl) ?_
      refine al_nilT ?_
      refine aw_seq ?_
      refine aw_seq ?_
      refine aw_region ?_
      refine al_opd rfl rfl rfl (ao_mv (v := .int _ _) rfl) ?_
      refine al_opd rfl rfl rfl (ao_lss rfl rfl) ?_
      refine al_nilT ?_
      refine aw_cond rfl (fun h14_ => ?_) (fun h14_ => ?_)
      · try simp only [nrm] at h14_
        first | done | omega | (exfalso; revert h14_; simp; (first | done | omega))
      try simp only [nrm] at h14_
      refine aw_skipT ?_
      refine aw_seq ?_
      refine aw_seq ?_
      refine aw_region ?_
      refine al_opd rfl rfl rfl (ao_mv (v := .int _ _) rfl) ?_
      refine al_opd rfl rfl rfl (ao_mv (v := .int _ _) rfl) ?_
      refine al_opd rfl rfl rfl (ao_neq rfl rfl) ?_
      refine al_nilT ?_
      refine aw_cond rfl (fun h15_ => ?_) (fun h15_ => ?_)
      · try simp only [nrm] at h15_
        first | done | omega | (exfalso; revert h15_; simp; (first | done | omega))
      try simp only [nrm] at h15_
      refine aw_skipT ?_
      refine aw_seq ?_
      refine aw_region ?_
      refine al_opd rfl rfl rfl (ao_as (v := .bool _) rfl) ?_
      refine al_nilT ?_
      refine aw_ret ?_
      refine ends1 rfl (rv_tmp (v := .bool _) rfl) ?_
      exact ⟨by first | rfl | (simp [*]; (first | done | fail)), by exact SMp⟩

-- laws.FnExactLetGo
theorem lawLet2_c {L : Int} {v u : Value} {l : List Int} {hs : List Hold} {m : Int} {H : AHeap} (ha : Sl H i16 1 v l) (hh : Sl H hold 2 u hs) (hl : l.length ≤ 9223372036854775807) (hm : hs.length ≤ 9223372036854775807) (hL : -32768 ≤ L ∧ L ≤ 32767) (hw : holdOk hs) (hv : okRope L l ∧ okHolds l.length hs) (hmb : ¬ (0 ≤ m ∧ m ≤ (hs.length : Int) - 1)) : ACd Try.prog 4 [.agg #[.int .i16 L, v], u, .int .i64 m] H (.bool true) (H) := by
  refine ac_gc0 (fun β => VR.plainT β (by first | rfl | simp [plainT, plainV, plain1])) (ac_body Try.func4 rfl Try.ntmps4 rfl ?_)
  refine aw_seq ?_
  refine aw_region ?_
  refine al_opd rfl rfl rfl (ao_boxa (by rfl)) ?_
  refine al_opd rfl rfl rfl (ao_as (v := .bool _) rfl) ?_
  refine al_nilT ?_
  refine aw_seq ?_
  refine aw_region ?_
  refine al_opd rfl rfl rfl (ao_as (v := .int _ _) rfl) ?_
  refine al_nilT ?_
  refine aw_seq ?_
  refine aw_region ?_
  refine al_opd rfl rfl rfl (ao_loada Try.isAgg25 Try.sizeOf25 rfl (by exact HLp) (by rfl) (by exact RFp)) ?_
  refine al_opd rfl rfl rfl (ao_mv (v := .int _ _) rfl) ?_
  refine al_opd rfl rfl rfl (ao_calld (szRope_c (L := L) (v := v) (l := l) (k := 1048576) (ha.mono (by exact SMp)) hl (by omega)) Try.call5 rfl rfl) ?_
  refine al_opd rfl rfl rfl (ao_as (v := .int _ _) rfl) ?_
  refine al_nilT ?_
  refine aw_seq ?_
  refine aw_seq ?_
  refine aw_region ?_
  refine al_opd rfl rfl rfl (ao_mv (v := .int _ _) rfl) ?_
  refine al_opd rfl rfl rfl (ao_lss rfl rfl) ?_
  refine al_nilT ?_
  refine aw_cond rfl (fun h1_ => ?_) (fun h1_ => ?_)
  · try simp only [nrm] at h1_
    refine aw_seq ?_
    refine aw_region ?_
    refine al_opd rfl rfl rfl (ao_as (v := .bool _) rfl) ?_
    refine al_nilT ?_
    refine aw_ret ?_
    refine thenA_r ?_
    refine ends1 rfl (rv_tmp (v := .bool _) rfl) ?_
    exact ⟨by first | rfl | (simp [*]; (first | done | fail)), by exact SMp⟩
  · try simp only [nrm] at h1_
    have hl1 : l.length ≤ 1048576 := by omega
    refine aw_skipT ?_
    refine aw_seq ?_
    refine aw_region ?_
    first | refine al_opd rfl rfl rfl (ao_mv (v := .slice _ _ _) rfl) ?_ | refine al_opd rfl rfl rfl (ao_mv (v := v) rfl) ?_ | refine al_opd rfl rfl rfl (ao_mv (v := u) rfl) ?_
    refine al_opd rfl rfl rfl (ao_mv (v := .int _ _) rfl) ?_
    refine al_opd rfl rfl rfl (ao_calld (szHoldS_c (v := u) (l := hs) (k := if 1048576 - (l.length : Int) < 0 then -1 else 1048576 - l.length) (hh.mono (by exact SMp)) hm (by omega)) Try.call12 rfl rfl) ?_
    refine al_opd rfl rfl rfl (ao_as (v := .int _ _) rfl) ?_
    refine al_nilT ?_
    refine aw_seq ?_
    refine aw_seq ?_
    refine aw_region ?_
    refine al_opd rfl rfl rfl (ao_mv (v := .int _ _) rfl) ?_
    refine al_opd rfl rfl rfl (ao_lss rfl rfl) ?_
    refine al_nilT ?_
    refine aw_cond rfl (fun h2_ => ?_) (fun h2_ => ?_)
    · try simp only [nrm] at h2_
      refine aw_seq ?_
      refine aw_region ?_
      refine al_opd rfl rfl rfl (ao_as (v := .bool _) rfl) ?_
      refine al_nilT ?_
      refine aw_ret ?_
      refine thenA_r ?_
      refine ends1 rfl (rv_tmp (v := .bool _) rfl) ?_
      exact ⟨by first | rfl | (simp [*]; (first | done | fail)), by exact SMp⟩
    · try simp only [nrm] at h2_
      have hm1 : hs.length ≤ 1048576 := by omega
      refine aw_skipT ?_
      refine aw_seq ?_
      refine aw_region ?_
      refine al_opd rfl rfl rfl (ao_loada Try.isAgg25 Try.sizeOf25 rfl (by exact HLp) (by rfl) (by exact RFp)) ?_
      refine al_opd rfl rfl rfl (ao_calld (toRope_c (L := L) (v := v) (l := l) (ha.mono (by exact SMp)) (by omega)) Try.call7 rfl rfl) ?_
      first | refine al_opd rfl rfl rfl (ao_mv (v := .slice _ _ _) rfl) ?_ | refine al_opd rfl rfl rfl (ao_mv (v := v) rfl) ?_ | refine al_opd rfl rfl rfl (ao_mv (v := u) rfl) ?_
      refine al_opd rfl rfl rfl (ao_calld (toHoldS_c (v := u) (l := hs) (hh.mono (by exact SMp)) (by omega)) Try.call14 rfl rfl) ?_
      refine al_opd rfl rfl rfl (ao_mv (v := .int _ _) rfl) ?_
      refine al_opd rfl rfl rfl (ao_calld (specLet2_c (L := L) (ks := l) (hs := hs) (Sl.full i16_len (by exact HLp) rfl rfl rfl) (by exact HLp) (by omega) (by omega) (by omega) hL hw hv hmb) Try.call13 rfl rfl) ?_
      refine al_opd rfl rfl rfl (ao_mv (v := .tuple _) rfl) ?_
      first | refine al_opd rfl rfl rfl (ao_extract (v := v) rfl rfl) ?_ | refine al_opd rfl rfl rfl (ao_extract (v := u) rfl rfl) ?_ | refine al_opd rfl rfl rfl (ao_extract (v := .slice _ _ _) rfl rfl) ?_
      refine al_opd rfl rfl rfl (ao_extract (v := .int _ _) rfl rfl) ?_
      first | refine al_opd rfl rfl rfl (ao_as (v := .slice _ _ _) rfl) ?_ | refine al_opd rfl rfl rfl (ao_as (v := v) rfl) ?_ | refine al_opd rfl rfl rfl (ao_as (v := u) rfl) ?_
      refine al_opd rfl rfl rfl (ao_as (v := .int _ _) rfl) ?_
      refine al_nilT ?_
      refine aw_seq ?_
      refine aw_region ?_
      refine al_opd rfl rfl rfl (ao_loada Try.isAgg25 Try.sizeOf25 rfl (by exact HLp) (by rfl) (by exact RFp)) ?_
      refine al_opd rfl rfl rfl (ao_calld (toRope_c (L := L) (v := v) (l := l) (ha.mono (by exact SMp)) (by omega)) Try.call7 rfl rfl) ?_
      refine al_opd rfl rfl rfl (ao_alloca (zv27) (by rfl)) ?_
      first | refine al_opd rfl rfl rfl ((ao_storeL Try.sizeOf27 (by rfl) (by rfl) (by exact HLp) (by exact RFp) (by exact RFp) (by exact RFp)).to (SetR.eq (by exact SRp))) ?_ | refine al_opd rfl rfl rfl ((ao_storeP (ds := [.int _ _, .slice _ _ _]) Try.sizeOf27 (by rfl) (by rfl) (by exact HLp) (by exact RFp) (by exact RFp) (by exact LTp)).to (SetR.eq (by exact SRp))) ?_
      refine al_nilT ?_
      refine aw_seq ?_
      refine aw_region ?_
      first | refine al_opd rfl rfl rfl (ao_mv (v := .slice _ _ _) rfl) ?_ | refine al_opd rfl rfl rfl (ao_mv (v := v) rfl) ?_ | refine al_opd rfl rfl rfl (ao_mv (v := u) rfl) ?_
      refine al_opd rfl rfl rfl (ao_calld (toHoldS_c (v := u) (l := hs) (hh.mono (by exact SMp)) (by omega)) Try.call14 rfl rfl) ?_
      first | refine al_opd rfl rfl rfl (ao_as (v := .slice _ _ _) rfl) ?_ | refine al_opd rfl rfl rfl (ao_as (v := v) rfl) ?_ | refine al_opd rfl rfl rfl (ao_as (v := u) rfl) ?_
      refine al_nilT ?_
      refine aw_seq ?_
      refine aw_region ?_
      refine al_opd rfl rfl rfl (ao_loada Try.isAgg27 Try.sizeOf27 rfl (by exact HLp) (by rfl) (by exact RFp)) ?_
      first | refine al_opd rfl rfl rfl (ao_mv (v := .slice _ _ _) rfl) ?_ | refine al_opd rfl rfl rfl (ao_mv (v := v) rfl) ?_ | refine al_opd rfl rfl rfl (ao_mv (v := u) rfl) ?_
      refine al_opd rfl rfl rfl (ao_mv (v := .int _ _) rfl) ?_
      refine al_opd rfl rfl rfl (ao_calld (implLet2_c (L := L) (ks := l) (hs := hs) (Sl.full i16_len (by exact HLp) rfl rfl rfl) (by exact HLp) (by omega) (by omega) (by omega) hL hw hv hmb) Try.call15 rfl rfl) ?_
      refine al_opd rfl rfl rfl (ao_mv (v := .tuple _) rfl) ?_
      first | refine al_opd rfl rfl rfl (ao_extract (v := v) rfl rfl) ?_ | refine al_opd rfl rfl rfl (ao_extract (v := u) rfl rfl) ?_ | refine al_opd rfl rfl rfl (ao_extract (v := .slice _ _ _) rfl rfl) ?_
      refine al_opd rfl rfl rfl (ao_extract (v := .int _ _) rfl rfl) ?_
      first | refine al_opd rfl rfl rfl (ao_as (v := .slice _ _ _) rfl) ?_ | refine al_opd rfl rfl rfl (ao_as (v := v) rfl) ?_ | refine al_opd rfl rfl rfl (ao_as (v := u) rfl) ?_
      refine al_opd rfl rfl rfl (ao_as (v := .int _ _) rfl) ?_
      refine al_nilT ?_
      refine aw_seq ?_
      refine aw_seq ?_
      refine aw_region ?_
      first | refine al_opd rfl rfl rfl (ao_mv (v := .slice _ _ _) rfl) ?_ | refine al_opd rfl rfl rfl (ao_mv (v := v) rfl) ?_ | refine al_opd rfl rfl rfl (ao_mv (v := u) rfl) ?_
      first | refine al_opd rfl rfl rfl (ao_mv (v := .slice _ _ _) rfl) ?_ | refine al_opd rfl rfl rfl (ao_mv (v := v) rfl) ?_ | refine al_opd rfl rfl rfl (ao_mv (v := u) rfl) ?_
      refine al_opd rfl rfl rfl (ao_calld (eqHoldS_c (l := []) (m := []) Sl.nil Sl.zero (by simp)) Try.call16 rfl rfl) ?_
      refine al_opd rfl rfl rfl (ao_not rfl) ?_
      refine al_opd rfl rfl rfl (ao_mv (v := .bool _) rfl) ?_
      refine al_cases (d := 53) rfl (fun h3_ => ?_) (fun h3_ => ?_)
      · try simp only [nrm] at h3_
        first | done | omega | (exfalso; revert h3_; simp; (first | done | omega))
      try simp only [nrm] at h3_
      refine al_gyes rfl rfl rfl rfl rfl (ao_mv (v := .int _ _) rfl) ?_
      refine al_gyes rfl rfl rfl rfl rfl (ao_mv (v := .int _ _) rfl) ?_
      refine al_gyes rfl rfl rfl rfl rfl (ao_neq rfl rfl) ?_
      refine al_opd rfl rfl rfl (ao_pickF rfl (v := .bool _) rfl) ?_
      refine al_nilT ?_
      refine aw_cond rfl (fun h4_ => ?_) (fun h4_ => ?_)
      · try simp only [nrm] at h4_
        first | done | omega | (exfalso; revert h4_; simp; (first | done | omega))
      try simp only [nrm] at h4_
      refine aw_skipT ?_
      refine aw_seq ?_
      refine aw_seq ?_
      refine aw_draw (m := 5) mo (by kernel_rfl) rfl (fun _ _ _ h => h) ?_
      refine dw_opd rfl rfl rfl (ao_loada Try.isAgg27 Try.sizeOf27 rfl (by exact HLp) (by rfl) (by exact RFp)) ?_
      refine dw_opd rfl rfl rfl (ao_loada Try.isAgg25 Try.sizeOf25 rfl (by exact HLp) (by rfl) (by exact RFp)) ?_
      refine dw_opn rfl rfl rfl (ao_calld (toRope_c (L := L) (v := v) (l := l) (ha.mono (by exact SMp)) (by omega)) Try.call7 rfl rfl) ?_
      refine dw_opd rfl rfl rfl (ao_calld (eqRope_c (L := L) (M := L) (l := l) (m := l) (Sl.full i16_len (by exact HLp) rfl rfl rfl) (Sl.full i16_len (by exact HLp) rfl rfl rfl) (by omega)) Try.call9 rfl rfl) ?_
      refine dw_opd rfl rfl rfl (ao_not rfl) ?_
      refine dw_end ?_
      refine al_nilT ?_
      refine aw_cond rfl (fun h5_ => ?_) (fun h5_ => ?_)
      · try simp only [nrm] at h5_
        first | done | omega | (exfalso; revert h5_; simp; (first | done | omega))
      try simp only [nrm] at h5_
      refine aw_skipT ?_
      refine aw_seq ?_
      refine aw_seq ?_
      refine aw_region ?_
      first | refine al_opd rfl rfl rfl (ao_mv (v := .slice _ _ _) rfl) ?_ | refine al_opd rfl rfl rfl (ao_mv (v := v) rfl) ?_ | refine al_opd rfl rfl rfl (ao_mv (v := u) rfl) ?_
      first | refine al_opd rfl rfl rfl (ao_mv (v := .slice _ _ _) rfl) ?_ | refine al_opd rfl rfl rfl (ao_mv (v := v) rfl) ?_ | refine al_opd rfl rfl rfl (ao_mv (v := u) rfl) ?_
      refine al_opd rfl rfl rfl (ao_calld (toHoldS_c (v := u) (l := hs) (hh.mono (by exact SMp)) (by omega)) Try.call14 rfl rfl) ?_
      refine al_opd rfl rfl rfl (ao_calld (eqHoldS_c (l := hs) (m := hs) (Sl.full hold_len (by exact HLp) rfl rfl rfl) (Sl.full hold_len (by exact HLp) rfl rfl rfl) (by omega)) Try.call16 rfl rfl) ?_
      refine al_opd rfl rfl rfl (ao_not rfl) ?_
      refine al_nilT ?_
      refine aw_cond rfl (fun h6_ => ?_) (fun h6_ => ?_)
      · try simp only [nrm] at h6_
        first | done | omega | (exfalso; revert h6_; simp; (first | done | omega))
      try simp only [nrm] at h6_
      refine aw_skipT ?_
      refine aw_seq ?_
      refine aw_region ?_
      refine al_opd rfl rfl rfl (ao_as (v := .int _ _) rfl) ?_
      refine al_nilT ?_
      refine aw_seq ?_
      refine aw_region ?_
      refine al_opd rfl rfl rfl (ao_loada Try.isAgg27 Try.sizeOf27 rfl (by exact HLp) (by rfl) (by exact RFp)) ?_
      refine al_opd rfl rfl rfl (ao_mv (v := .int _ _) rfl) ?_
      refine al_opd rfl rfl rfl ((ao_calld (markRope_c (L := L) (l := l) (k := 1) (by exact HLp) (by omega) (by omega)) Try.call10 rfl rfl).to (SetR.eq (by exact SRp))) ?_
      refine al_opd rfl rfl rfl (ao_as (v := .int _ _) rfl) ?_
      refine al_nilT ?_
      refine aw_seq ?_
      refine aw_region ?_
      first | refine al_opd rfl rfl rfl (ao_mv (v := .slice _ _ _) rfl) ?_ | refine al_opd rfl rfl rfl (ao_mv (v := v) rfl) ?_ | refine al_opd rfl rfl rfl (ao_mv (v := u) rfl) ?_
      refine al_opd rfl rfl rfl (ao_mv (v := .int _ _) rfl) ?_
      refine al_opd rfl rfl rfl ((ao_calld (mark_hold_c (l := hs) (k := 1 + l.length) (by exact HLp) (by omega) (by omega)) Try.call17 rfl rfl).to (SetR.eq (by exact SRp))) ?_
      refine al_opd rfl rfl rfl (ao_as (v := .int _ _) rfl) ?_
      refine al_nilT ?_
      refine aw_seq ?_
      refine aw_seq ?_
      refine aw_region ?_
      refine al_opd rfl rfl rfl (ao_mv (v := .int _ _) rfl) ?_
      refine al_opd rfl rfl rfl (ao_lss rfl rfl) ?_
      refine al_opd rfl rfl rfl (ao_mv (v := .bool _) rfl) ?_
      refine al_cases (d := 76) rfl (fun h7_ => ?_) (fun h7_ => ?_)
      · try simp only [nrm] at h7_
        first | done | omega | (exfalso; revert h7_; simp; (first | done | omega))
      try simp only [nrm] at h7_
      first | refine al_gyes rfl rfl rfl rfl rfl (ao_mv (v := .slice _ _ _) rfl) ?_ | refine al_gyes rfl rfl rfl rfl rfl (ao_mv (v := v) rfl) ?_ | refine al_gyes rfl rfl rfl rfl rfl (ao_mv (v := u) rfl) ?_
      first | refine al_gyes rfl rfl rfl rfl rfl (ao_mv (v := .slice _ _ _) rfl) ?_ | refine al_gyes rfl rfl rfl rfl rfl (ao_mv (v := v) rfl) ?_ | refine al_gyes rfl rfl rfl rfl rfl (ao_mv (v := u) rfl) ?_
      refine al_gyes rfl rfl rfl rfl rfl (ao_calld (eqHoldS_c (l := []) (m := []) Sl.nil Sl.zero (by simp)) Try.call16 rfl rfl) ?_
      refine al_gyes rfl rfl rfl rfl rfl (ao_not rfl) ?_
      refine al_opd rfl rfl rfl (ao_pickF rfl (v := .bool _) rfl) ?_
      refine al_opd rfl rfl rfl (ao_mv (v := .bool _) rfl) ?_
      refine al_cases (d := 82) rfl (fun h8_ => ?_) (fun h8_ => ?_)
      · try simp only [nrm] at h8_
        first | done | omega | (exfalso; revert h8_; simp; (first | done | omega))
      try simp only [nrm] at h8_
      refine al_gyes rfl rfl rfl rfl rfl (ao_mv (v := .int _ _) rfl) ?_
      refine al_gyes rfl rfl rfl rfl rfl (ao_mv (v := .int _ _) rfl) ?_
      refine al_gyes rfl rfl rfl rfl rfl (ao_neq rfl rfl) ?_
      refine al_opd rfl rfl rfl (ao_pickF rfl (v := .bool _) rfl) ?_
      refine al_nilT ?_
      refine aw_cond rfl (fun h9_ => ?_) (fun h9_ => ?_)
      · try simp only [nrm] at h9_
        first | done | omega | (exfalso; revert h9_; simp; (first | done | omega))
      try simp only [nrm] at h9_
      refine aw_skipT ?_
      refine aw_seq ?_
      refine aw_region ?_
      refine al_opd rfl rfl rfl (ao_as (v := .int _ _) rfl) ?_
      refine al_nilT ?_
      refine aw_seq ?_
      refine aw_region ?_
      first | refine al_opd rfl rfl rfl (ao_mv (v := .slice _ _ _) rfl) ?_ | refine al_opd rfl rfl rfl (ao_mv (v := v) rfl) ?_ | refine al_opd rfl rfl rfl (ao_mv (v := u) rfl) ?_
      refine al_opd rfl rfl rfl (ao_mv (v := .int _ _) rfl) ?_
      refine al_opd rfl rfl rfl (ao_calld (mark0_hold_c (k := 1)) Try.call17 rfl rfl) ?_
      refine al_opd rfl rfl rfl (ao_as (v := .int _ _) rfl) ?_
      refine al_nilT ?_
      refine aw_seq ?_
      refine aw_region ?_
      refine al_opd rfl rfl rfl (ao_as (v := .int _ _) rfl) ?_
      refine al_nilT ?_
      refine aw_seq ?_
      refine aw_region ?_
      first | refine al_opd rfl rfl rfl (ao_mv (v := .slice _ _ _) rfl) ?_ | refine al_opd rfl rfl rfl (ao_mv (v := v) rfl) ?_ | refine al_opd rfl rfl rfl (ao_mv (v := u) rfl) ?_
      refine al_opd rfl rfl rfl (ao_mv (v := .int _ _) rfl) ?_
      refine al_opd rfl rfl rfl (ao_calld (held_hold_c (n := 0) (k := 1) Sl.nil (by omega) (by omega)) Try.call18 rfl rfl) ?_
      refine al_opd rfl rfl rfl (ao_as (v := .int _ _) rfl) ?_
      refine al_nilT ?_
      refine aw_seq ?_
      refine aw_seq ?_
      refine aw_region ?_
      refine al_opd rfl rfl rfl (ao_mv (v := .int _ _) rfl) ?_
      refine al_opd rfl rfl rfl (ao_lss rfl rfl) ?_
      refine al_nilT ?_
      refine aw_cond rfl (fun h10_ => ?_) (fun h10_ => ?_)
      · try simp only [nrm] at h10_
        first | done | omega | (exfalso; revert h10_; simp; (first | done | omega))
      try simp only [nrm] at h10_
      refine aw_skipT ?_
      refine aw_seq ?_
      refine aw_seq ?_
      refine aw_region ?_
      refine al_opd rfl rfl rfl (ao_mv (v := .int _ _) rfl) ?_
      refine al_opd rfl rfl rfl (ao_mv (v := .int _ _) rfl) ?_
      refine al_opd rfl rfl rfl (ao_neq rfl rfl) ?_
      refine al_nilT ?_
      refine aw_cond rfl (fun h11_ => ?_) (fun h11_ => ?_)
      · try simp only [nrm] at h11_
        first | done | omega | (exfalso; revert h11_; simp; (first | done | omega))
      try simp only [nrm] at h11_
      refine aw_skipT ?_
      refine aw_seq ?_
      refine aw_region ?_
      refine al_opd rfl rfl rfl (ao_loada Try.isAgg25 Try.sizeOf25 rfl (by exact HLp) (by rfl) (by exact RFp)) ?_
      refine al_opd rfl rfl rfl (ao_calld (toRope_c (L := L) (v := v) (l := l) (ha.mono (by exact SMp)) (by omega)) Try.call7 rfl rfl) ?_
      first | refine al_opd rfl rfl rfl (ao_mv (v := .slice _ _ _) rfl) ?_ | refine al_opd rfl rfl rfl (ao_mv (v := v) rfl) ?_ | refine al_opd rfl rfl rfl (ao_mv (v := u) rfl) ?_
      refine al_opd rfl rfl rfl (ao_calld (toHoldS_c (v := u) (l := hs) (hh.mono (by exact SMp)) (by omega)) Try.call14 rfl rfl) ?_
      refine al_opd rfl rfl rfl (ao_mv (v := .int _ _) rfl) ?_
      refine al_opd rfl rfl rfl (ao_calld (implLet2_c (L := L) (ks := l) (hs := hs) (Sl.full i16_len (by exact HLp) rfl rfl rfl) (by exact HLp) (by omega) (by omega) (by omega) hL hw hv hmb) Try.call15 rfl rfl) ?_
      refine al_opd rfl rfl rfl (ao_mv (v := .tuple _) rfl) ?_
      first | refine al_opd rfl rfl rfl (ao_extract (v := v) rfl rfl) ?_ | refine al_opd rfl rfl rfl (ao_extract (v := u) rfl rfl) ?_ | refine al_opd rfl rfl rfl (ao_extract (v := .slice _ _ _) rfl rfl) ?_
      refine al_opd rfl rfl rfl (ao_extract (v := .int _ _) rfl rfl) ?_
      first | refine al_opd rfl rfl rfl (ao_as (v := .slice _ _ _) rfl) ?_ | refine al_opd rfl rfl rfl (ao_as (v := v) rfl) ?_ | refine al_opd rfl rfl rfl (ao_as (v := u) rfl) ?_
      refine al_opd rfl rfl rfl (ao_as (v := .int _ _) rfl) ?_
      refine al_nilT ?_
      refine aw_seq ?_
      refine aw_seq ?_
      refine aw_region ?_
      first | refine al_opd rfl rfl rfl (ao_mv (v := .slice _ _ _) rfl) ?_ | refine al_opd rfl rfl rfl (ao_mv (v := v) rfl) ?_ | refine al_opd rfl rfl rfl (ao_mv (v := u) rfl) ?_
      first | refine al_opd rfl rfl rfl (ao_mv (v := .slice _ _ _) rfl) ?_ | refine al_opd rfl rfl rfl (ao_mv (v := v) rfl) ?_ | refine al_opd rfl rfl rfl (ao_mv (v := u) rfl) ?_
      refine al_opd rfl rfl rfl (ao_calld (eqHoldS_c (l := []) (m := []) Sl.nil Sl.zero (by simp)) Try.call16 rfl rfl) ?_
      refine al_opd rfl rfl rfl (ao_not rfl) ?_
      refine al_opd rfl rfl rfl (ao_mv (v := .bool _) rfl) ?_
      refine al_cases (d := 111) rfl (fun h12_ => ?_) (fun h12_ => ?_)
      · try simp only [nrm] at h12_
        first | done | omega | (exfalso; revert h12_; simp; (first | done | omega))
      try simp only [nrm] at h12_
      refine al_gyes rfl rfl rfl rfl rfl (ao_mv (v := .int _ _) rfl) ?_
      refine al_gyes rfl rfl rfl rfl rfl (ao_mv (v := .int _ _) rfl) ?_
      refine al_gyes rfl rfl rfl rfl rfl (ao_neq rfl rfl) ?_
      refine al_opd rfl rfl rfl (ao_pickF rfl (v := .bool _) rfl) ?_
      refine al_nilT ?_
      refine aw_cond rfl (fun h13_ => ?_) (fun h13_ => ?_)
      · try simp only [nrm] at h13_
        first | done | omega | (exfalso; revert h13_; simp; (first | done | omega))
      try simp only [nrm] at h13_
      refine aw_skipT ?_
      refine aw_seq ?_
      refine aw_region ?_
      refine al_opd rfl rfl rfl (ao_as (v := .int _ _) rfl) ?_
      refine al_nilT ?_
      refine aw_seq ?_
      refine aw_region ?_
      first | refine al_opd rfl rfl rfl (ao_mv (v := .slice _ _ _) rfl) ?_ | refine al_opd rfl rfl rfl (ao_mv (v := v) rfl) ?_ | refine al_opd rfl rfl rfl (ao_mv (v := u) rfl) ?_
      refine al_opd rfl rfl rfl (ao_mv (v := .int _ _) rfl) ?_
      refine al_opd rfl rfl rfl (ao_calld (held_hold_c (n := 0) (k := 1) Sl.nil (by omega) (by omega)) Try.call18 rfl rfl) ?_
      refine al_opd rfl rfl rfl (ao_as (v := .int _ _) rfl) ?_
      refine al_nilT ?_
      refine aw_seq ?_
      refine aw_seq ?_
      refine aw_region ?_
      refine al_opd rfl rfl rfl (ao_mv (v := .int _ _) rfl) ?_
      refine al_opd rfl rfl rfl (ao_lss rfl rfl) ?_
      refine al_nilT ?_
      refine aw_cond rfl (fun h14_ => ?_) (fun h14_ => ?_)
      · try simp only [nrm] at h14_
        first | done | omega | (exfalso; revert h14_; simp; (first | done | omega))
      try simp only [nrm] at h14_
      refine aw_skipT ?_
      refine aw_seq ?_
      refine aw_seq ?_
      refine aw_region ?_
      refine al_opd rfl rfl rfl (ao_mv (v := .int _ _) rfl) ?_
      refine al_opd rfl rfl rfl (ao_mv (v := .int _ _) rfl) ?_
      refine al_opd rfl rfl rfl (ao_neq rfl rfl) ?_
      refine al_nilT ?_
      refine aw_cond rfl (fun h15_ => ?_) (fun h15_ => ?_)
      · try simp only [nrm] at h15_
        first | done | omega | (exfalso; revert h15_; simp; (first | done | omega))
      try simp only [nrm] at h15_
      refine aw_skipT ?_
      refine aw_seq ?_
      refine aw_region ?_
      refine al_opd rfl rfl rfl (ao_as (v := .bool _) rfl) ?_
      refine al_nilT ?_
      refine aw_ret ?_
      refine ends1 rfl (rv_tmp (v := .bool _) rfl) ?_
      exact ⟨by first | rfl | (simp [*]; (first | done | fail)), by exact SMp⟩

theorem lawLetGo_c {L : Int} {v u : Value} {l : List Int} {hs : List Hold} {m : Int} {H : AHeap} (ha : Sl H i16 1 v l) (hh : Sl H hold 2 u hs) (hl : l.length ≤ 9223372036854775807) (hm : hs.length ≤ 9223372036854775807) (hL : -32768 ≤ L ∧ L ≤ 32767) (hw : holdOk hs) : ACd Try.prog 4 [.agg #[.int .i16 L, v], u, .int .i64 m] H (.bool true) H := by
  by_cases hv : okRope L l ∧ okHolds l.length hs
  · by_cases hb : 0 ≤ m ∧ m ≤ (hs.length : Int) - 1
    · obtain ⟨i, rfl⟩ := Int.eq_ofNat_of_zero_le hb.1
      exact lawLet1_c ha hh hl hm hL hw hv (by omega)
    · exact lawLet2_c ha hh hl hm hL hw hv hb
  · exact lawLet0_c ha hh hl hm hL hw hv

end Go.Proofs.Ytdcmjbaahcipoaa
