/- Contracts of the program's functions over abstract heaps. -/
import Derived.Test.YtmmmjdbknepjgaaDoorGb
import Derived.Test.YtmmmjdbknepjgaaDoorGs
namespace Go.Proofs.YtmmmjdbknepjgaaDoor
open Go Go.AW Go.Proofs
set_option linter.unusedVariables false
set_option linter.unusedSimpArgs false
set_option maxRecDepth 100000
set_option maxHeartbeats 2000000

-- strings.Split
theorem splitS_c {t : ByteArray} {c : UInt8} {H : AHeap} (hsz : t.size ≤ 1048576) : ACd Tryd.prog 34 [.string t, .string ⟨#[c]⟩] H (.slice (some ⟨H.next, 0, none⟩) (pcs c t).length ((pcs c t).length + 1)) (H.push (.cells (fl str1 (pcs c t)) 1)) := by
  refine ac_gcs (vrl_fl str1_plain _) (ac_body Tryd.func34 rfl Tryd.ntmps34 rfl ?_)
  refine aw_seq ?_
  refine aw_region ?_
  refine al_opd rfl rfl rfl (ao_as (v := .slice _ _ _) rfl) ?_
  refine al_nilT ?_
  refine aw_seq ?_
  refine aw_region ?_
  refine al_opd rfl rfl rfl (ao_mv (v := .string _) rfl) ?_
  refine al_opd rfl rfl rfl (ao_mv (v := .string _) rfl) ?_
  refine al_opd rfl rfl rfl (ao_calld (genSplit_c (s := t) (c := c) (by omega)) Tryd.call64 rfl rfl) ?_
  refine al_opd rfl rfl rfl (ao_as (v := .slice _ _ _) rfl) ?_
  refine al_nilT ?_
  refine aw_ret ?_
  refine ends1 rfl (rv_tmp (v := .slice _ _ _) rfl) ?_
  exact ⟨by exact SMp, _, by exact LEp, by exact HLp, fun ρ h => vr_sl h (by omega) (by omega)⟩

end Go.Proofs.YtmmmjdbknepjgaaDoor
