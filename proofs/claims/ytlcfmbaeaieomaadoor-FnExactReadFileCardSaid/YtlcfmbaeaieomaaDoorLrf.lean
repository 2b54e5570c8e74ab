/- Contracts of the program's functions over abstract heaps. -/
import Derived.Test.YtlcfmbaeaieomaaDoorFileW
import Derived.Test.YtlcfmbaeaieomaaDoorFl
import Derived.Test.YtlcfmbaeaieomaaDoorRs
import Derived.Test.YtlcfmbaeaieomaaDoorRi
namespace Go.Proofs.YtlcfmbaeaieomaaDoor
open Go Go.AW Go.Proofs
set_option linter.unusedVariables false
set_option linter.unusedSimpArgs false
set_option maxRecDepth 100000
set_option maxHeartbeats 2000000

-- laws.FnExactReadFile
theorem lawRf1_c {t : ByteArray} {l : List Spot} {H : AHeap} (hv : plainF l) (hq : fileTx l = t) : ACd Tryd.prog 4 [.string t] H (.bool true) (H) := by
  have hv2 := hv.1.2.2
  refine ac_gc0 (fun β => VR.plainT β (by first | rfl | simp [plainT, plainV, plain1])) (ac_body Tryd.func4 rfl Tryd.ntmps4 rfl ?_)
  refine aw_seq ?_
  refine aw_region ?_
  refine al_opd rfl rfl rfl (ao_as (v := .bool _) rfl) ?_
  refine al_nilT ?_
  refine aw_seq ?_
  refine aw_seq ?_
  refine aw_region ?_
  refine al_opd rfl rfl rfl (ao_mv (v := .string _) rfl) ?_
  refine al_opd rfl rfl rfl (ao_lenStr Tryd.underlying9 (by rfl)) ?_
  refine al_opd rfl rfl rfl (ao_gtr rfl rfl) ?_
  refine al_nilT ?_
  refine aw_cond rfl (fun h1_ => ?_) (fun h1_ => ?_)
  · try simp only [nrm] at h1_
    refine aw_seq ?_
    refine aw_region ?_
    refine al_opd rfl rfl rfl (ao_as (v := .bool _) rfl) ?_
    refine al_nilT ?_
    refine aw_ret ?_
    refine thenA_r ?_
    refine ends1 rfl (rv_tmp (v := .bool _) rfl) ?_
    exact ⟨by first | rfl | (simp [*]; (first | done | fail)), by exact SMp⟩
  · try simp only [nrm] at h1_
    refine aw_skipT ?_
    refine aw_seq ?_
    refine aw_region ?_
    refine al_opd rfl rfl rfl (ao_mv (v := .string _) rfl) ?_
    refine al_opd rfl rfl rfl (ao_calld (specRf1_c (t := t) (l := l) (by omega) hv hq) Tryd.call10 rfl rfl) ?_
    refine al_opd rfl rfl rfl (ao_mv (v := .tuple _) rfl) ?_
    refine al_opd rfl rfl rfl (ao_extract (v := .slice _ _ _) rfl rfl) ?_
    refine al_opd rfl rfl rfl (ao_extract (v := .int _ _) rfl rfl) ?_
    refine al_opd rfl rfl rfl (ao_as (v := .slice _ _ _) rfl) ?_
    refine al_opd rfl rfl rfl (ao_as (v := .int _ _) rfl) ?_
    refine al_nilT ?_
    refine aw_seq ?_
    refine aw_region ?_
    refine al_opd rfl rfl rfl (ao_mv (v := .string _) rfl) ?_
    refine al_opd rfl rfl rfl (ao_calld (implRf1_c (t := t) (l := l) (by omega) hv hq) Tryd.call11 rfl rfl) ?_
    refine al_opd rfl rfl rfl (ao_mv (v := .tuple _) rfl) ?_
    refine al_opd rfl rfl rfl (ao_extract (v := .slice _ _ _) rfl rfl) ?_
    refine al_opd rfl rfl rfl (ao_extract (v := .int _ _) rfl rfl) ?_
    refine al_opd rfl rfl rfl (ao_as (v := .slice _ _ _) rfl) ?_
    refine al_opd rfl rfl rfl (ao_as (v := .int _ _) rfl) ?_
    refine al_nilT ?_
    refine aw_seq ?_
    refine aw_seq ?_
    refine aw_region ?_
    refine al_opd rfl rfl rfl (ao_mv (v := .slice _ _ _) rfl) ?_
    refine al_opd rfl rfl rfl (ao_mv (v := .slice _ _ _) rfl) ?_
    refine al_opd rfl rfl rfl (ao_calld (eqFile_c (l := l) (m := l) (Sl.full spot_len (by exact HLp) rfl rfl rfl) (Sl.full spot_len (by exact HLp) rfl rfl rfl) (by omega)) Tryd.call9 rfl rfl) ?_
    refine al_opd rfl rfl rfl (ao_not rfl) ?_
    refine al_opd rfl rfl rfl (ao_mv (v := .bool _) rfl) ?_
    refine al_cases (d := 28) rfl (fun h2_ => ?_) (fun h2_ => ?_)
    · try simp only [nrm] at h2_
      first | done | omega | (exfalso; revert h2_; simp; (first | done | omega))
    try simp only [nrm] at h2_
    refine al_gyes rfl rfl rfl rfl rfl (ao_mv (v := .int _ _) rfl) ?_
    refine al_gyes rfl rfl rfl rfl rfl (ao_mv (v := .int _ _) rfl) ?_
    refine al_gyes rfl rfl rfl rfl rfl (ao_neq rfl rfl) ?_
    refine al_opd rfl rfl rfl (ao_pickF rfl (v := .bool _) rfl) ?_
    refine al_nilT ?_
    refine aw_cond rfl (fun h3_ => ?_) (fun h3_ => ?_)
    · try simp only [nrm] at h3_
      first | done | omega | (exfalso; revert h3_; simp; (first | done | omega))
    try simp only [nrm] at h3_
    refine aw_skipT ?_
    refine aw_seq ?_
    refine aw_region ?_
    refine al_opd rfl rfl rfl (ao_as (v := .int _ _) rfl) ?_
    refine al_nilT ?_
    refine aw_seq ?_
    refine aw_region ?_
    refine al_opd rfl rfl rfl (ao_mv (v := .slice _ _ _) rfl) ?_
    refine al_opd rfl rfl rfl (ao_mv (v := .int _ _) rfl) ?_
    refine al_opd rfl rfl rfl ((ao_calld (mark_file_c (l := l) (k := 1) (by exact HLp) (by omega) (by omega)) Tryd.call12 rfl rfl).to (SetR.eq (by exact SRp))) ?_
    refine al_opd rfl rfl rfl (ao_as (v := .int _ _) rfl) ?_
    refine al_nilT ?_
    refine aw_seq ?_
    refine aw_region ?_
    refine al_opd rfl rfl rfl (ao_as (v := .int _ _) rfl) ?_
    refine al_nilT ?_
    refine aw_seq ?_
    refine aw_region ?_
    refine al_opd rfl rfl rfl (ao_mv (v := .slice _ _ _) rfl) ?_
    refine al_opd rfl rfl rfl (ao_mv (v := .int _ _) rfl) ?_
    refine al_opd rfl rfl rfl (ao_calld (held_file_c (n := l.length) (k := 1) (Sl.full spot_len (by exact HLp) rfl rfl (mkSpot_len _ _).symm) (by omega) (by omega)) Tryd.call13 rfl rfl) ?_
    refine al_opd rfl rfl rfl (ao_as (v := .int _ _) rfl) ?_
    refine al_nilT ?_
    refine aw_seq ?_
    refine aw_seq ?_
    refine aw_region ?_
    refine al_opd rfl rfl rfl (ao_mv (v := .int _ _) rfl) ?_
    refine al_opd rfl rfl rfl (ao_lss rfl rfl) ?_
    refine al_nilT ?_
    refine aw_cond rfl (fun h4_ => ?_) (fun h4_ => ?_)
    · try simp only [nrm] at h4_
      first | done | omega | (exfalso; revert h4_; simp; (first | done | omega))
    try simp only [nrm] at h4_
    refine aw_skipT ?_
    refine aw_seq ?_
    refine aw_seq ?_
    refine aw_region ?_
    refine al_opd rfl rfl rfl (ao_mv (v := .int _ _) rfl) ?_
    refine al_opd rfl rfl rfl (ao_mv (v := .int _ _) rfl) ?_
    refine al_opd rfl rfl rfl (ao_neq rfl rfl) ?_
    refine al_nilT ?_
    refine aw_cond rfl (fun h5_ => ?_) (fun h5_ => ?_)
    · try simp only [nrm] at h5_
      first | done | omega | (exfalso; revert h5_; simp; (first | done | omega))
    try simp only [nrm] at h5_
    refine aw_skipT ?_
    refine aw_seq ?_
    refine aw_region ?_
    refine al_opd rfl rfl rfl (ao_mv (v := .string _) rfl) ?_
    refine al_opd rfl rfl rfl (ao_calld (implRf1_c (t := t) (l := l) (by omega) hv hq) Tryd.call11 rfl rfl) ?_
    refine al_opd rfl rfl rfl (ao_mv (v := .tuple _) rfl) ?_
    refine al_opd rfl rfl rfl (ao_extract (v := .slice _ _ _) rfl rfl) ?_
    refine al_opd rfl rfl rfl (ao_extract (v := .int _ _) rfl rfl) ?_
    refine al_opd rfl rfl rfl (ao_as (v := .slice _ _ _) rfl) ?_
    refine al_opd rfl rfl rfl (ao_as (v := .int _ _) rfl) ?_
    refine al_nilT ?_
    refine aw_seq ?_
    refine aw_seq ?_
    refine aw_region ?_
    refine al_opd rfl rfl rfl (ao_mv (v := .slice _ _ _) rfl) ?_
    refine al_opd rfl rfl rfl (ao_mv (v := .slice _ _ _) rfl) ?_
    refine al_opd rfl rfl rfl (ao_calld (eqFile_c (l := l) (m := l) (Sl.full spot_len (by exact HLp) rfl rfl rfl) (Sl.full spot_len (by exact HLp) rfl rfl rfl) (by omega)) Tryd.call9 rfl rfl) ?_
    refine al_opd rfl rfl rfl (ao_not rfl) ?_
    refine al_opd rfl rfl rfl (ao_mv (v := .bool _) rfl) ?_
    refine al_cases (d := 53) rfl (fun h6_ => ?_) (fun h6_ => ?_)
    · try simp only [nrm] at h6_
      first | done | omega | (exfalso; revert h6_; simp; (first | done | omega))
    try simp only [nrm] at h6_
    refine al_gyes rfl rfl rfl rfl rfl (ao_mv (v := .int _ _) rfl) ?_
    refine al_gyes rfl rfl rfl rfl rfl (ao_mv (v := .int _ _) rfl) ?_
    refine al_gyes rfl rfl rfl rfl rfl (ao_neq rfl rfl) ?_
    refine al_opd rfl rfl rfl (ao_pickF rfl (v := .bool _) rfl) ?_
    refine al_nilT ?_
    refine aw_cond rfl (fun h7_ => ?_) (fun h7_ => ?_)
    · try simp only [nrm] at h7_
      first | done | omega | (exfalso; revert h7_; simp; (first | done | omega))
    try simp only [nrm] at h7_
    refine aw_skipT ?_
    refine aw_seq ?_
    refine aw_region ?_
    refine al_opd rfl rfl rfl (ao_as (v := .int _ _) rfl) ?_
    refine al_nilT ?_
    refine aw_seq ?_
    refine aw_region ?_
    refine al_opd rfl rfl rfl (ao_mv (v := .slice _ _ _) rfl) ?_
    refine al_opd rfl rfl rfl (ao_mv (v := .int _ _) rfl) ?_
    refine al_opd rfl rfl rfl (ao_calld (held_file_c (n := l.length) (k := 1) (Sl.full spot_len (by exact HLp) rfl rfl (mkSpot_len _ _).symm) (by omega) (by omega)) Tryd.call13 rfl rfl) ?_
    refine al_opd rfl rfl rfl (ao_as (v := .int _ _) rfl) ?_
    refine al_nilT ?_
    refine aw_seq ?_
    refine aw_seq ?_
    refine aw_region ?_
    refine al_opd rfl rfl rfl (ao_mv (v := .int _ _) rfl) ?_
    refine al_opd rfl rfl rfl (ao_lss rfl rfl) ?_
    refine al_nilT ?_
    refine aw_cond rfl (fun h8_ => ?_) (fun h8_ => ?_)
    · try simp only [nrm] at h8_
      first | done | omega | (exfalso; revert h8_; simp; (first | done | omega))
    try simp only [nrm] at h8_
    refine aw_skipT ?_
    refine aw_seq ?_
    refine aw_seq ?_
    refine aw_region ?_
    refine al_opd rfl rfl rfl (ao_mv (v := .int _ _) rfl) ?_
    refine al_opd rfl rfl rfl (ao_mv (v := .int _ _) rfl) ?_
    refine al_opd rfl rfl rfl (ao_neq rfl rfl) ?_
    refine al_nilT ?_
    refine aw_cond rfl (fun h9_ => ?_) (fun h9_ => ?_)
    · try simp only [nrm] at h9_
      first | done | omega | (exfalso; revert h9_; simp; (first | done | omega))
    try simp only [nrm] at h9_
    refine aw_skipT ?_
    refine aw_seq ?_
    refine aw_region ?_
    refine al_opd rfl rfl rfl (ao_as (v := .bool _) rfl) ?_
    refine al_nilT ?_
    refine aw_ret ?_
    refine ends1 rfl (rv_tmp (v := .bool _) rfl) ?_
    exact ⟨by first | rfl | (simp [*]; (first | done | fail)), by exact SMp⟩

-- laws.FnExactReadFile
theorem lawRf0_c {t : ByteArray} {H : AHeap} (hno : ∀ l, plainF l → fileTx l ≠ t) : ACd Tryd.prog 4 [.string t] H (.bool true) (H) := by
  refine ac_gc0 (fun β => VR.plainT β (by first | rfl | simp [plainT, plainV, plain1])) (ac_body Tryd.func4 rfl Tryd.ntmps4 rfl ?_)
  refine aw_seq ?_
  refine aw_region ?_
  refine al_opd rfl rfl rfl (ao_as (v := .bool _) rfl) ?_
  refine al_nilT ?_
  refine aw_seq ?_
  refine aw_seq ?_
  refine aw_region ?_
  refine al_opd rfl rfl rfl (ao_mv (v := .string _) rfl) ?_
  refine al_opd rfl rfl rfl (ao_lenStr Tryd.underlying9 (by rfl)) ?_
  refine al_opd rfl rfl rfl (ao_gtr rfl rfl) ?_
  refine al_nilT ?_
  refine aw_cond rfl (fun h1_ => ?_) (fun h1_ => ?_)
  · try simp only [nrm] at h1_
    refine aw_seq ?_
    refine aw_region ?_
    refine al_opd rfl rfl rfl (ao_as (v := .bool _) rfl) ?_
    refine al_nilT ?_
    refine aw_ret ?_
    refine thenA_r ?_
    refine ends1 rfl (rv_tmp (v := .bool _) rfl) ?_
    exact ⟨by first | rfl | (simp [*]; (first | done | fail)), by exact SMp⟩
  · try simp only [nrm] at h1_
    refine aw_skipT ?_
    refine aw_seq ?_
    refine aw_region ?_
    refine al_opd rfl rfl rfl (ao_mv (v := .string _) rfl) ?_
    refine al_opd rfl rfl rfl (ao_calld (specRf0_c (t := t) (by omega) hno) Tryd.call10 rfl rfl) ?_
    refine al_opd rfl rfl rfl (ao_mv (v := .tuple _) rfl) ?_
    refine al_opd rfl rfl rfl (ao_extract (v := .slice _ _ _) rfl rfl) ?_
    refine al_opd rfl rfl rfl (ao_extract (v := .int _ _) rfl rfl) ?_
    refine al_opd rfl rfl rfl (ao_as (v := .slice _ _ _) rfl) ?_
    refine al_opd rfl rfl rfl (ao_as (v := .int _ _) rfl) ?_
    refine al_nilT ?_
    refine aw_seq ?_
    refine aw_region ?_
    refine al_opd rfl rfl rfl (ao_mv (v := .string _) rfl) ?_
    refine al_opd rfl rfl rfl (ao_calld (implRf0_c (t := t) (by omega) hno) Tryd.call11 rfl rfl) ?_
    refine al_opd rfl rfl rfl (ao_mv (v := .tuple _) rfl) ?_
    refine al_opd rfl rfl rfl (ao_extract (v := .slice _ _ _) rfl rfl) ?_
    refine al_opd rfl rfl rfl (ao_extract (v := .int _ _) rfl rfl) ?_
    refine al_opd rfl rfl rfl (ao_as (v := .slice _ _ _) rfl) ?_
    refine al_opd rfl rfl rfl (ao_as (v := .int _ _) rfl) ?_
    refine al_nilT ?_
    refine aw_seq ?_
    refine aw_seq ?_
    refine aw_region ?_
    refine al_opd rfl rfl rfl (ao_mv (v := .slice _ _ _) rfl) ?_
    refine al_opd rfl rfl rfl (ao_mv (v := .slice _ _ _) rfl) ?_
    refine al_opd rfl rfl rfl (ao_calld (eqFile_c (l := []) (m := []) Sl.nil Sl.zero (by simp)) Tryd.call9 rfl rfl) ?_
    refine al_opd rfl rfl rfl (ao_not rfl) ?_
    refine al_opd rfl rfl rfl (ao_mv (v := .bool _) rfl) ?_
    refine al_cases (d := 28) rfl (fun h2_ => ?_) (fun h2_ => ?_)
    · try simp only [nrm] at h2_
      first | done | omega | (exfalso; revert h2_; simp; (first | done | omega))
    try simp only [nrm] at h2_
    refine al_gyes rfl rfl rfl rfl rfl (ao_mv (v := .int _ _) rfl) ?_
    refine al_gyes rfl rfl rfl rfl rfl (ao_mv (v := .int _ _) rfl) ?_
    refine al_gyes rfl rfl rfl rfl rfl (ao_neq rfl rfl) ?_
    refine al_opd rfl rfl rfl (ao_pickF rfl (v := .bool _) rfl) ?_
    refine al_nilT ?_
    refine aw_cond rfl (fun h3_ => ?_) (fun h3_ => ?_)
    · try simp only [nrm] at h3_
      first | done | omega | (exfalso; revert h3_; simp; (first | done | omega))
    try simp only [nrm] at h3_
    refine aw_skipT ?_
    refine aw_seq ?_
    refine aw_region ?_
    refine al_opd rfl rfl rfl (ao_as (v := .int _ _) rfl) ?_
    refine al_nilT ?_
    refine aw_seq ?_
    refine aw_region ?_
    refine al_opd rfl rfl rfl (ao_mv (v := .slice _ _ _) rfl) ?_
    refine al_opd rfl rfl rfl (ao_mv (v := .int _ _) rfl) ?_
    refine al_opd rfl rfl rfl (ao_calld (mark0_file_c (k := 1)) Tryd.call12 rfl rfl) ?_
    refine al_opd rfl rfl rfl (ao_as (v := .int _ _) rfl) ?_
    refine al_nilT ?_
    refine aw_seq ?_
    refine aw_region ?_
    refine al_opd rfl rfl rfl (ao_as (v := .int _ _) rfl) ?_
    refine al_nilT ?_
    refine aw_seq ?_
    refine aw_region ?_
    refine al_opd rfl rfl rfl (ao_mv (v := .slice _ _ _) rfl) ?_
    refine al_opd rfl rfl rfl (ao_mv (v := .int _ _) rfl) ?_
    refine al_opd rfl rfl rfl (ao_calld (held_file_c (n := 0) (k := 1) Sl.nil (by omega) (by omega)) Tryd.call13 rfl rfl) ?_
    refine al_opd rfl rfl rfl (ao_as (v := .int _ _) rfl) ?_
    refine al_nilT ?_
    refine aw_seq ?_
    refine aw_seq ?_
    refine aw_region ?_
    refine al_opd rfl rfl rfl (ao_mv (v := .int _ _) rfl) ?_
    refine al_opd rfl rfl rfl (ao_lss rfl rfl) ?_
    refine al_nilT ?_
    refine aw_cond rfl (fun h4_ => ?_) (fun h4_ => ?_)
    · try simp only [nrm] at h4_
      first | done | omega | (exfalso; revert h4_; simp; (first | done | omega))
    try simp only [nrm] at h4_
    refine aw_skipT ?_
    refine aw_seq ?_
    refine aw_seq ?_
    refine aw_region ?_
    refine al_opd rfl rfl rfl (ao_mv (v := .int _ _) rfl) ?_
    refine al_opd rfl rfl rfl (ao_mv (v := .int _ _) rfl) ?_
    refine al_opd rfl rfl rfl (ao_neq rfl rfl) ?_
    refine al_nilT ?_
    refine aw_cond rfl (fun h5_ => ?_) (fun h5_ => ?_)
    · try simp only [nrm] at h5_
      first | done | omega | (exfalso; revert h5_; simp; (first | done | omega))
    try simp only [nrm] at h5_
    refine aw_skipT ?_
    refine aw_seq ?_
    refine aw_region ?_
    refine al_opd rfl rfl rfl (ao_mv (v := .string _) rfl) ?_
    refine al_opd rfl rfl rfl (ao_calld (implRf0_c (t := t) (by omega) hno) Tryd.call11 rfl rfl) ?_
    refine al_opd rfl rfl rfl (ao_mv (v := .tuple _) rfl) ?_
    refine al_opd rfl rfl rfl (ao_extract (v := .slice _ _ _) rfl rfl) ?_
    refine al_opd rfl rfl rfl (ao_extract (v := .int _ _) rfl rfl) ?_
    refine al_opd rfl rfl rfl (ao_as (v := .slice _ _ _) rfl) ?_
    refine al_opd rfl rfl rfl (ao_as (v := .int _ _) rfl) ?_
    refine al_nilT ?_
    refine aw_seq ?_
    refine aw_seq ?_
    refine aw_region ?_
    refine al_opd rfl rfl rfl (ao_mv (v := .slice _ _ _) rfl) ?_
    refine al_opd rfl rfl rfl (ao_mv (v := .slice _ _ _) rfl) ?_
    refine al_opd rfl rfl rfl (ao_calld (eqFile_c (l := []) (m := []) Sl.nil Sl.zero (by simp)) Tryd.call9 rfl rfl) ?_
    refine al_opd rfl rfl rfl (ao_not rfl) ?_
    refine al_opd rfl rfl rfl (ao_mv (v := .bool _) rfl) ?_
    refine al_cases (d := 53) rfl (fun h6_ => ?_) (fun h6_ => ?_)
    · try simp only [nrm] at h6_
      first | done | omega | (exfalso; revert h6_; simp; (first | done | omega))
    try simp only [nrm] at h6_
    refine al_gyes rfl rfl rfl rfl rfl (ao_mv (v := .int _ _) rfl) ?_
    refine al_gyes rfl rfl rfl rfl rfl (ao_mv (v := .int _ _) rfl) ?_
    refine al_gyes rfl rfl rfl rfl rfl (ao_neq rfl rfl) ?_
    refine al_opd rfl rfl rfl (ao_pickF rfl (v := .bool _) rfl) ?_
    refine al_nilT ?_
    refine aw_cond rfl (fun h7_ => ?_) (fun h7_ => ?_)
    · try simp only [nrm] at h7_
      first | done | omega | (exfalso; revert h7_; simp; (first | done | omega))
    try simp only [nrm] at h7_
    refine aw_skipT ?_
    refine aw_seq ?_
    refine aw_region ?_
    refine al_opd rfl rfl rfl (ao_as (v := .int _ _) rfl) ?_
    refine al_nilT ?_
    refine aw_seq ?_
    refine aw_region ?_
    refine al_opd rfl rfl rfl (ao_mv (v := .slice _ _ _) rfl) ?_
    refine al_opd rfl rfl rfl (ao_mv (v := .int _ _) rfl) ?_
    refine al_opd rfl rfl rfl (ao_calld (held_file_c (n := 0) (k := 1) Sl.nil (by omega) (by omega)) Tryd.call13 rfl rfl) ?_
    refine al_opd rfl rfl rfl (ao_as (v := .int _ _) rfl) ?_
    refine al_nilT ?_
    refine aw_seq ?_
    refine aw_seq ?_
    refine aw_region ?_
    refine al_opd rfl rfl rfl (ao_mv (v := .int _ _) rfl) ?_
    refine al_opd rfl rfl rfl (ao_lss rfl rfl) ?_
    refine al_nilT ?_
    refine aw_cond rfl (fun h8_ => ?_) (fun h8_ => ?_)
    · try simp only [nrm] at h8_
      first | done | omega | (exfalso; revert h8_; simp; (first | done | omega))
    try simp only [nrm] at h8_
    refine aw_skipT ?_
    refine aw_seq ?_
    refine aw_seq ?_
    refine aw_region ?_
    refine al_opd rfl rfl rfl (ao_mv (v := .int _ _) rfl) ?_
    refine al_opd rfl rfl rfl (ao_mv (v := .int _ _) rfl) ?_
    refine al_opd rfl rfl rfl (ao_neq rfl rfl) ?_
    refine al_nilT ?_
    refine aw_cond rfl (fun h9_ => ?_) (fun h9_ => ?_)
    · try simp only [nrm] at h9_
      first | done | omega | (exfalso; revert h9_; simp; (first | done | omega))
    try simp only [nrm] at h9_
    refine aw_skipT ?_
    refine aw_seq ?_
    refine aw_region ?_
    refine al_opd rfl rfl rfl (ao_as (v := .bool _) rfl) ?_
    refine al_nilT ?_
    refine aw_ret ?_
    refine ends1 rfl (rv_tmp (v := .bool _) rfl) ?_
    exact ⟨by first | rfl | (simp [*]; (first | done | fail)), by exact SMp⟩

theorem lawRf_c {t : ByteArray} {H : AHeap} : ACd Tryd.prog 4 [.string t] H (.bool true) H := by
  by_cases h : hasF t
  · obtain ⟨l, hv, hq⟩ := h
    exact lawRf1_c hv hq
  · exact lawRf0_c fun l h1 h2 => h ⟨l, h1, h2⟩

end Go.Proofs.YtlcfmbaeaieomaaDoor
