/- Contracts of the program's functions over abstract heaps. -/
import Derived.Test.YtdcmjbaahcipoaaTab
namespace Go.Proofs.Ytdcmjbaahcipoaa
open Go Go.AW Go.Proofs
set_option linter.unusedVariables false
set_option linter.unusedSimpArgs false
set_option maxRecDepth 100000
set_option maxHeartbeats 2000000

-- slices.Clone[[]impl.Hold,impl.Hold]
theorem cloneHold1_c {l : List Hold} {pb o c : Nat} {H : AHeap} (hh : Sl H hold 2 (.slice (some ⟨pb, o, none⟩) l.length c) l) (hl : l.length ≤ 4194304) (h0 : 0 < l.length) : ACd Try.prog 40 [.slice (some ⟨pb, o, none⟩) l.length c] H (.slice (some ⟨H.next, 0, none⟩) l.length (l.length + 1)) (H.push (.cells (fl hold l) 2)) := by
  refine ac_gcs (vrl_fl hold_plain l) (ac_body Try.func40 rfl Try.ntmps40 rfl ?_)
  refine aw_seq ?_
  refine aw_region ?_
  refine al_opd rfl rfl rfl (ao_as (v := .slice _ _ _) rfl) ?_
  refine al_nilT ?_
  refine aw_seq ?_
  refine aw_seq ?_
  refine aw_region ?_
  refine al_opd rfl rfl rfl (ao_mv (v := .slice _ _ _) rfl) ?_
  first | refine al_opd rfl rfl rfl (ao_eqSN Try.underlying36 (by rfl) rfl) ?_ | refine al_opd rfl rfl rfl (ao_eqNN Try.underlying36 (by rfl) rfl) ?_
  refine al_nilT ?_
  refine aw_cond rfl (fun h1_ => ?_) (fun h1_ => ?_)
  · try simp only [nrm] at h1_
    first | done | omega | (exfalso; revert h1_; simp; (first | done | omega))
  try simp only [nrm] at h1_
  refine aw_skipT ?_
  refine aw_seq ?_
  refine aw_region ?_
  refine al_opd rfl rfl rfl (ao_lit0 Try.underlying36 Try.sizeOf54 Try.zeroValue54 (by rfl) (by rfl) rfl) ?_
  refine al_opd rfl rfl rfl (ao_mv (v := .slice _ _ _) rfl) ?_
  refine al_opd rfl rfl rfl ((ao_appZ Try.underlying36 ⟨_, Try.underlying36⟩ elem54 (by rfl) (by rfl) ((hh.mono (by exact SMp)).src hold_len (by decide)) h0 (by omega) (by omega))) ?_
  refine al_opd rfl rfl rfl (ao_as (v := .slice _ _ _) rfl) ?_
  refine al_nilT ?_
  refine aw_ret ?_
  refine ends1 rfl (rv_tmp (v := .slice _ _ _) rfl) ?_
  exact ⟨by exact SMp, _, by exact LEp, by exact HLp, fun ρ h => vr_sl h (by omega) (by omega)⟩

-- slices.Clone[[]impl.Hold,impl.Hold]
theorem cloneHold0_c {pb o c : Nat} {H : AHeap} : ACd Try.prog 40 [.slice (some ⟨pb, o, none⟩) 0 c] H (.slice (some ⟨H.next, 0, none⟩) 0 1) (H.push (.cells (fl hold []) 2)) := by
  refine ac_gcs (vrl_fl hold_plain []) (ac_body Try.func40 rfl Try.ntmps40 rfl ?_)
  refine aw_seq ?_
  refine aw_region ?_
  refine al_opd rfl rfl rfl (ao_as (v := .slice _ _ _) rfl) ?_
  refine al_nilT ?_
  refine aw_seq ?_
  refine aw_seq ?_
  refine aw_region ?_
  refine al_opd rfl rfl rfl (ao_mv (v := .slice _ _ _) rfl) ?_
  first | refine al_opd rfl rfl rfl (ao_eqSN Try.underlying36 (by rfl) rfl) ?_ | refine al_opd rfl rfl rfl (ao_eqNN Try.underlying36 (by rfl) rfl) ?_
  refine al_nilT ?_
  refine aw_cond rfl (fun h1_ => ?_) (fun h1_ => ?_)
  · try simp only [nrm] at h1_
    first | done | omega | (exfalso; revert h1_; simp; (first | done | omega))
  try simp only [nrm] at h1_
  refine aw_skipT ?_
  refine aw_seq ?_
  refine aw_region ?_
  refine al_opd rfl rfl rfl (ao_lit0 Try.underlying36 Try.sizeOf54 Try.zeroValue54 (by rfl) (by rfl) rfl) ?_
  refine al_opd rfl rfl rfl (ao_mv (v := .slice _ _ _) rfl) ?_
  refine al_opd rfl rfl rfl ((ao_app0 Try.underlying36 ⟨_, Try.underlying36⟩ elem54 (by rfl) (.inr ⟨_, _, _, _, rfl⟩) (by rfl) src_none)) ?_
  refine al_opd rfl rfl rfl (ao_as (v := .slice _ _ _) rfl) ?_
  refine al_nilT ?_
  refine aw_ret ?_
  refine ends1 rfl (rv_tmp (v := .slice _ _ _) rfl) ?_
  exact ⟨by exact SMp, _, by exact LEp, by exact HLp, fun ρ h => vr_sl h (by omega) (by omega)⟩

theorem cloneHold_c {l : List Hold} {pb o c : Nat} {H : AHeap} (hh : Sl H hold 2 (.slice (some ⟨pb, o, none⟩) l.length c) l) (hl : l.length ≤ 4194304) : ACd Try.prog 40 [.slice (some ⟨pb, o, none⟩) l.length c] H (.slice (some ⟨H.next, 0, none⟩) l.length (l.length + 1)) (H.push (.cells (fl hold l) 2)) := by
  rcases Nat.eq_zero_or_pos l.length with h | h
  · obtain rfl := List.eq_nil_of_length_eq_zero h
    exact cloneHold0_c
  · exact cloneHold1_c hh hl h

end Go.Proofs.Ytdcmjbaahcipoaa
