/- Contracts of the program's functions over abstract heaps. -/
import Derived.Test.YtmafkbminigbcaaBfs7
import Derived.Test.YtmafkbminigbcaaFn
import Derived.Test.YtmafkbminigbcaaFr
import Derived.Test.YtmafkbminigbcaaSt
import Derived.Test.YtmafkbminigbcaaSt2
import Derived.Test.YtmafkbminigbcaaCp
namespace Go.Proofs.Ytmafkbminigbcaa
open Go Go.AW Go.Proofs
set_option linter.unusedVariables false
set_option linter.unusedSimpArgs false
set_option maxRecDepth 100000
set_option maxHeartbeats 2000000

-- spec.FarthestFrom
theorem specFar1_c {r : Room} {s : Spot} {H : AHeap} (hw : wfRoom r) (hs : wfSpot s) (hst : stoodC r s true 0) : ACd Try.prog 17 [.agg (roomC r).toArray, .agg #[.int .i8 s.x, .int .i8 s.y]] H (.tuple #[.agg #[.int .i8 (farB r s).x, .int .i8 (farB r s).y], .int .i64 (farM r s (farB r s)), .int .i64 0]) (H) := by
  have ⟨hr, hcl, hf, ha⟩ := stood_ok hst
  have hfl : (freeL r).length ≤ 100 := filter_len r (freeB r) hr.2.1 hr.2.2.2.1
  refine ac_gc0 (fun β => VR.plainT β (by first | rfl | simp [plainT, plainV, plain1])) (ac_body Try.func17 rfl Try.ntmps17 rfl ?_)
  refine aw_seq ?_
  refine aw_region ?_
  refine al_opd rfl rfl rfl (ao_boxa (by rfl)) ?_
  refine al_opd rfl rfl rfl (ao_boxa (by rfl)) ?_
  refine al_opd rfl rfl rfl (ao_alloca (zv31) (by rfl)) ?_
  refine al_opd rfl rfl rfl (ao_as (v := .int _ _) rfl) ?_
  refine al_opd rfl rfl rfl (ao_as (v := .int _ _) rfl) ?_
  refine al_nilT ?_
  refine aw_seq ?_
  refine aw_seq ?_
  refine aw_region ?_
  first | refine al_opd rfl rfl rfl (ao_loada Try.isAgg31 Try.sizeOf31 rfl (by exact HLp) (by rfl) (by first | rfl | exact grid_at hcx | (simp; (first | done | fail)))) ?_ | refine al_opd rfl rfl rfl (ao_loadsV (A := #[.int _ _, .int _ _]) Try.isAgg31 Try.sizeOf31 hsf rfl hx rfl (by decide)) ?_
  refine al_opd rfl rfl rfl (ao_calld (l01Stood_c (r := r) (s := s) (fine := true) (c := 0) (by exact HLp) hw hs hst) Try.call39 rfl rfl) ?_
  refine al_opd rfl rfl rfl (ao_as (v := .int _ _) rfl) ?_
  refine al_nilT ?_
  refine aw_seq ?_
  refine aw_region ?_
  refine al_opd rfl rfl rfl (ao_mv (v := .int _ _) rfl) ?_
  refine al_opd rfl rfl rfl (ao_neq rfl rfl) ?_
  refine al_nilT ?_
  refine aw_cond rfl (fun h1_ => ?_) (fun h1_ => ?_)
  · try simp only [nrm] at h1_
    first | done | omega | (exfalso; revert h1_; simp; (first | done | omega))
  try simp only [nrm] at h1_
  refine aw_skipT ?_
  refine aw_seq ?_
  refine aw_region ?_
  first | refine al_opd rfl rfl rfl (ao_loada Try.isAgg31 Try.sizeOf31 rfl (by exact HLp) (by rfl) (by first | rfl | exact grid_at hcx | (simp; (first | done | fail)))) ?_ | refine al_opd rfl rfl rfl (ao_loadsV (A := #[.int _ _, .int _ _]) Try.isAgg31 Try.sizeOf31 hsf rfl hx rfl (by decide)) ?_
  refine al_opd rfl rfl rfl (ao_calld (l01Steps_c (r := r) (s := s) (by exact HLp) hr hw hs ha) Try.call32 rfl rfl) ?_
  refine al_opd rfl rfl rfl (ao_alloca (zv64) (by rfl)) ?_
  first | refine al_opd rfl rfl rfl ((ao_storeL Try.sizeOf64 (by rfl) (by rfl) (by exact HLp) (by first | rfl | exact grid_at hcx | (simp; (first | done | fail))) (by first | rfl | exact grid_at hcx | (simp; (first | done | fail))) (by first | rfl | exact grid_at hcx | (simp; (first | done | fail)))).to (SetR.eq (by exact SRp))) ?_ | refine al_opd rfl rfl rfl ((ao_storeP (ds := [.int _ _, .int _ _, .int _ _, .int _ _, .int _ _, .int _ _, .int _ _, .int _ _, .int _ _, .int _ _, .int _ _, .int _ _, .int _ _, .int _ _, .int _ _, .int _ _, .int _ _, .int _ _, .int _ _, .int _ _, .int _ _, .int _ _, .int _ _, .int _ _, .int _ _, .int _ _, .int _ _, .int _ _, .int _ _, .int _ _, .int _ _, .int _ _, .int _ _, .int _ _, .int _ _, .int _ _, .int _ _, .int _ _, .int _ _, .int _ _, .int _ _, .int _ _, .int _ _, .int _ _, .int _ _, .int _ _, .int _ _, .int _ _, .int _ _, .int _ _, .int _ _, .int _ _, .int _ _, .int _ _, .int _ _, .int _ _, .int _ _, .int _ _, .int _ _, .int _ _, .int _ _, .int _ _, .int _ _, .int _ _, .int _ _, .int _ _, .int _ _, .int _ _, .int _ _, .int _ _, .int _ _, .int _ _, .int _ _, .int _ _, .int _ _, .int _ _, .int _ _, .int _ _, .int _ _, .int _ _, .int _ _, .int _ _, .int _ _, .int _ _, .int _ _, .int _ _, .int _ _, .int _ _, .int _ _, .int _ _, .int _ _, .int _ _, .int _ _, .int _ _, .int _ _, .int _ _, .int _ _, .int _ _, .int _ _, .int _ _]) Try.sizeOf64 (by rfl) (by rfl) (by exact HLp) (by first | rfl | exact grid_at hcx | (simp; (first | done | fail))) (by first | rfl | exact grid_at hcx | (simp; (first | done | fail))) (by first | (rw [gridC_len]; omega) | decide | (simp; omega))).to (SetR.eq (by exact SRp))) ?_
  refine al_nilT ?_
  refine aw_seq ?_
  refine aw_region ?_
  refine al_opd rfl rfl rfl (ao_build (A := #[.int _ _, .int _ _]) Try.zeroValue31 (by rfl) (by first | rfl | kernel_rfl) (by rfl) (by first | rfl | kernel_rfl)) ?_
  refine al_opd rfl rfl rfl (ao_alloca (zv31) (by rfl)) ?_
  first | refine al_opd rfl rfl rfl ((ao_storeL Try.sizeOf31 (by rfl) (by rfl) (by exact HLp) (by first | rfl | exact grid_at hcx | (simp; (first | done | fail))) (by first | rfl | exact grid_at hcx | (simp; (first | done | fail))) (by first | rfl | exact grid_at hcx | (simp; (first | done | fail)))).to (SetR.eq (by exact SRp))) ?_ | refine al_opd rfl rfl rfl ((ao_storeP (ds := [.int _ _, .int _ _]) Try.sizeOf31 (by rfl) (by rfl) (by exact HLp) (by first | rfl | exact grid_at hcx | (simp; (first | done | fail))) (by first | rfl | exact grid_at hcx | (simp; (first | done | fail))) (by first | (rw [gridC_len]; omega) | decide | (simp; omega))).to (SetR.eq (by exact SRp))) ?_
  refine al_nilT ?_
  refine aw_seq ?_
  refine aw_region ?_
  refine al_opd rfl rfl rfl (ao_as (v := .int _ _) rfl) ?_
  refine al_nilT ?_
  refine aw_seq ?_
  refine aw_region ?_
  refine al_opd rfl rfl rfl (ao_calld (l01All_c (r := r) (by exact HLp) hr hw) Try.call25 rfl rfl) ?_
  refine al_opd rfl rfl rfl (ao_as (v := .slice _ _ _) rfl) ?_
  refine al_nilT ?_
  refine aw_seq ?_
  refine aw_seq ?_
  refine aw_region ?_
  refine al_opd rfl rfl rfl (ao_as (v := .int _ _) rfl) ?_
  refine al_nilT ?_
  refine aw_block ?_
  refine aw_loop (fun (gk : Nat) (fr : AFr) (G : AHeap) => ∃ get : Nat → Value, fr = ⟨57, get⟩ ∧ (∃ i : Nat, i ≤ (freeL r).length ∧ gk = (freeL r).length - i ∧ Same H.next H G ∧ G.blk H.next = some (.cells (roomC r) 1) ∧ (∃ q, G.blk (H.next + 2) = some (.cells (spot q) 1)) ∧ G.blk (H.next + 3) = some (.cells (gridC (farF (found r s))) 1) ∧ G.blk (H.next + 4) = some (.cells (spot (topI r s i).1) 1) ∧ G.blk (H.next + 5) = some (.cells (fl spot (freeL r)) 2) ∧ H.next + 6 ≤ G.next ∧ get 4 = .pointer (some ⟨H.next + 2, 0, none⟩) ∧ get 8 = .pointer (some ⟨H.next + 3, 0, none⟩) ∧ get 9 = .pointer (some ⟨H.next + 4, 0, none⟩) ∧ get 10 = .int .i64 (topI r s i).2 ∧ get 11 = .slice (some ⟨H.next + 5, 0, none⟩) (freeL r).length ((freeL r).length + 1) ∧ get 12 = .int .i64 i)) ((freeL r).length) ⟨_, rfl, ?_⟩ ?_
  · refine ⟨0, Nat.zero_le _, rfl, by exact SMp, by exact HLp, ⟨⟨0, 0⟩, by exact HLp⟩, by exact HLp, by exact HLp, by exact HLp, ?_, rfl, rfl, rfl, rfl, rfl, rfl⟩ <;> exact LNp
  · rintro gk fr G ⟨get, rfl, i, hi, rfl, hG, hb0, ⟨q2, hb2⟩, hb3, hb4, hbf, hnx, g4, g8, g9, g10, g11, g12⟩
    have hsf : Sl G spot 2 (.slice (some ⟨H.next + 5, 0, none⟩) (freeL r).length ((freeL r).length + 1)) (freeL r) := Sl.full spot_len hbf rfl rfl rfl
    refine aw_slot (d := 4) (v := .pointer (some ⟨H.next + 2, 0, none⟩)) (by first | assumption | rfl) ?_
    refine aw_slot (d := 8) (v := .pointer (some ⟨H.next + 3, 0, none⟩)) (by first | assumption | rfl) ?_
    refine aw_slot (d := 9) (v := .pointer (some ⟨H.next + 4, 0, none⟩)) (by first | assumption | rfl) ?_
    refine aw_slot (d := 10) (v := .int .i64 (topI r s i).2) (by first | assumption | rfl) ?_
    refine aw_slot (d := 11) (v := .slice (some ⟨H.next + 5, 0, none⟩) (freeL r).length ((freeL r).length + 1)) (by first | assumption | rfl) ?_
    refine aw_slot (d := 12) (v := .int .i64 i) (by first | assumption | rfl) ?_
    refine aw_seq ?_
    refine aw_seq ?_
    refine aw_region ?_
    refine al_opd rfl rfl rfl (ao_mv (v := .int _ _) rfl) ?_
    refine al_opd rfl rfl rfl (ao_mv (v := .slice _ _ _) rfl) ?_
    first | refine al_opd rfl rfl rfl (ao_lenS Try.underlying35 (by rfl)) ?_ | refine al_opd rfl rfl rfl (ao_lenN Try.underlying35 (by rfl)) ?_ | refine al_opd rfl rfl rfl (ao_lenV Try.underlying35 rfl hsf) ?_
    refine al_opd rfl rfl rfl (ao_lss rfl rfl) ?_
    refine al_nilT ?_
    refine aw_cond rfl (fun h2_ => ?_) (fun h2_ => ?_)
    · try simp only [nrm] at h2_
      obtain ⟨x, hx⟩ := get_lt (show i < (freeL r).length by omega)
      have hcx := cell10_of (free_at hx)
      have ⟨e1, e2, e3, e4⟩ := hcx
      have hfx := farF_M r s hcx
      refine aw_skipT ?_
      refine aw_seq ?_
      refine aw_block ?_
      refine aw_seq ?_
      refine aw_draw (m := 15) mo (by kernel_rfl) rfl (fun _ _ _ h => h) ?_
      refine dw_opd rfl rfl rfl (ao_mv (v := .slice _ _ _) rfl) ?_
      refine dw_opd rfl rfl rfl (ao_mv (v := .int _ _) rfl) ?_
      first | refine dw_opd rfl rfl rfl (ao_indexAddrS Try.underlying35 Try.sizeOf31 rfl rfl (by exact IXp) (by exact IXp)) ?_ | refine dw_opd rfl rfl rfl (ao_indexV Try.underlying35 Try.sizeOf31 rfl rfl hsf (by exact IXp) (by exact IXp)) ?_
      refine dw_opd rfl rfl rfl (ao_fieldAddr fo_31_1 rfl) ?_
      first | refine dw_opd rfl rfl rfl (ao_load (v := .int _ _) Try.isAgg24 (by rfl) (by exact HLp) (by rfl) (by first | rfl | exact grid_at hcx | (simp; (first | done | fail)))) ?_ | refine dw_opd rfl rfl rfl (ao_loadV (j := 0) (u := .int _ _) Try.isAgg24 hsf rfl rfl hx rfl) ?_ | refine dw_opd rfl rfl rfl (ao_loadV (j := 1) (u := .int _ _) Try.isAgg24 hsf rfl rfl hx rfl) ?_
      refine dw_opd rfl rfl rfl (ao_mv (v := .slice _ _ _) rfl) ?_
      refine dw_opd rfl rfl rfl (ao_mv (v := .int _ _) rfl) ?_
      first | refine dw_opd rfl rfl rfl (ao_indexAddrS Try.underlying35 Try.sizeOf31 rfl rfl (by exact IXp) (by exact IXp)) ?_ | refine dw_opd rfl rfl rfl (ao_indexV Try.underlying35 Try.sizeOf31 rfl rfl hsf (by exact IXp) (by exact IXp)) ?_
      refine dw_opd rfl rfl rfl (ao_fieldAddr fo_31_0 rfl) ?_
      first | refine dw_opd rfl rfl rfl (ao_load (v := .int _ _) Try.isAgg24 (by rfl) (by exact HLp) (by rfl) (by first | rfl | exact grid_at hcx | (simp; (first | done | fail)))) ?_ | refine dw_opd rfl rfl rfl (ao_loadV (j := 0) (u := .int _ _) Try.isAgg24 hsf rfl rfl hx rfl) ?_ | refine dw_opd rfl rfl rfl (ao_loadV (j := 1) (u := .int _ _) Try.isAgg24 hsf rfl rfl hx rfl) ?_
      refine dw_opd rfl rfl rfl (ao_indexAddrA Try.underlying64 Try.sizeOf63 rfl rfl (by exact IXp) (by exact IXp)) ?_
      refine dw_opd rfl rfl rfl (ao_indexAddrA Try.underlying63 Try.sizeOf2 rfl rfl (by exact IXp) (by exact IXp)) ?_
      first | refine dw_opd rfl rfl rfl (ao_load (v := .int _ _) Try.isAgg2 (by rfl) (by exact HLp) (by rfl) (by first | rfl | exact grid_at hcx | (simp; (first | done | fail)))) ?_ | refine dw_opd rfl rfl rfl (ao_loadV (j := 0) (u := .int _ _) Try.isAgg2 hsf rfl rfl hx rfl) ?_ | refine dw_opd rfl rfl rfl (ao_loadV (j := 1) (u := .int _ _) Try.isAgg2 hsf rfl rfl hx rfl) ?_
      refine dw_opd rfl rfl rfl (ao_mv (v := .int _ _) rfl) ?_
      refine dw_opd rfl rfl rfl (ao_gtr rfl rfl) ?_
      refine dw_end ?_
      refine al_nilT ?_
      refine aw_cond rfl (fun h3_ => ?_) (fun h3_ => ?_)
      · try simp only [nrm] at h3_
        have hty := top_yes hx (by rw [← hfx]; exact h3_)
        refine aw_seq ?_
        refine aw_region ?_
        refine al_opd rfl rfl rfl (ao_mv (v := .slice _ _ _) rfl) ?_
        refine al_opd rfl rfl rfl (ao_mv (v := .int _ _) rfl) ?_
        first | refine al_opd rfl rfl rfl (ao_indexAddrS Try.underlying35 Try.sizeOf31 rfl rfl (by exact IXp) (by exact IXp)) ?_ | refine al_opd rfl rfl rfl (ao_indexV Try.underlying35 Try.sizeOf31 rfl rfl hsf (by exact IXp) (by exact IXp)) ?_
        first | refine al_opd rfl rfl rfl (ao_loada Try.isAgg31 Try.sizeOf31 rfl (by exact HLp) (by rfl) (by first | rfl | exact grid_at hcx | (simp; (first | done | fail)))) ?_ | refine al_opd rfl rfl rfl (ao_loadsV (A := #[.int _ _, .int _ _]) Try.isAgg31 Try.sizeOf31 hsf rfl hx rfl (by decide)) ?_
        first | refine al_opd rfl rfl rfl ((ao_storeL Try.sizeOf31 (by rfl) (by rfl) (by exact HLp) (by first | rfl | exact grid_at hcx | (simp; (first | done | fail))) (by first | rfl | exact grid_at hcx | (simp; (first | done | fail))) (by first | rfl | exact grid_at hcx | (simp; (first | done | fail)))).to (SetR.eq (by exact SRp))) ?_ | refine al_opd rfl rfl rfl ((ao_storeP (ds := [.int _ _, .int _ _]) Try.sizeOf31 (by rfl) (by rfl) (by exact HLp) (by first | rfl | exact grid_at hcx | (simp; (first | done | fail))) (by first | rfl | exact grid_at hcx | (simp; (first | done | fail))) (by first | (rw [gridC_len]; omega) | decide | (simp; omega))).to (SetR.eq (by exact SRp))) ?_
        refine al_nilT ?_
        refine aw_draw (m := 8) mo (by kernel_rfl) rfl (fun _ _ _ h => h) ?_
        refine dw_opd rfl rfl rfl (ao_fieldAddr fo_31_1 rfl) ?_
        first | refine dw_opd rfl rfl rfl (ao_load (v := .int _ _) Try.isAgg24 (by rfl) (by exact HLp) (by rfl) (by first | rfl | exact grid_at hcx | (simp; (first | done | fail)))) ?_ | refine dw_opd rfl rfl rfl (ao_loadV (j := 0) (u := .int _ _) Try.isAgg24 hsf rfl rfl hx rfl) ?_ | refine dw_opd rfl rfl rfl (ao_loadV (j := 1) (u := .int _ _) Try.isAgg24 hsf rfl rfl hx rfl) ?_
        refine dw_opd rfl rfl rfl (ao_fieldAddr fo_31_0 rfl) ?_
        first | refine dw_opd rfl rfl rfl (ao_load (v := .int _ _) Try.isAgg24 (by rfl) (by exact HLp) (by rfl) (by first | rfl | exact grid_at hcx | (simp; (first | done | fail)))) ?_ | refine dw_opd rfl rfl rfl (ao_loadV (j := 0) (u := .int _ _) Try.isAgg24 hsf rfl rfl hx rfl) ?_ | refine dw_opd rfl rfl rfl (ao_loadV (j := 1) (u := .int _ _) Try.isAgg24 hsf rfl rfl hx rfl) ?_
        refine dw_opd rfl rfl rfl (ao_indexAddrA Try.underlying64 Try.sizeOf63 rfl rfl (by exact IXp) (by exact IXp)) ?_
        refine dw_opd rfl rfl rfl (ao_indexAddrA Try.underlying63 Try.sizeOf2 rfl rfl (by exact IXp) (by exact IXp)) ?_
        first | refine dw_opd rfl rfl rfl (ao_load (v := .int _ _) Try.isAgg2 (by rfl) (by exact HLp) (by rfl) (by first | rfl | exact grid_at hcx | (simp; (first | done | fail)))) ?_ | refine dw_opd rfl rfl rfl (ao_loadV (j := 0) (u := .int _ _) Try.isAgg2 hsf rfl rfl hx rfl) ?_ | refine dw_opd rfl rfl rfl (ao_loadV (j := 1) (u := .int _ _) Try.isAgg2 hsf rfl rfl hx rfl) ?_
        refine dw_opd rfl rfl rfl (ao_as (v := .int _ _) rfl) ?_
        refine dw_end ?_
        refine al_nilB ?_
        refine thenA_n ?_
        refine aw_region ?_
        refine al_opd rfl rfl rfl (ao_mv (v := .int _ _) rfl) ?_
        first | refine al_opd rfl rfl rfl ((ao_add rfl rfl).val (nw_i64 BDp BDp)) ?_ | refine al_opd rfl rfl rfl (ao_add rfl rfl) ?_
        refine al_opd rfl rfl rfl (ao_as (v := .int _ _) rfl) ?_
        refine al_nilT ?_
        refine ⟨_, ?_, _, rfl, i + 1, by omega, rfl, by exact SMp, by exact HLp, ⟨q2, by exact HLp⟩, by exact HLp, by rw [hty]; exact (by exact HLp), by exact HLp, ?_, rfl, rfl, rfl, by rw [hty, ← hfx]; rfl, rfl, by rfl⟩
        · omega
        · exact LNp
      · try simp only [nrm] at h3_
        have htn := top_no (a := s) hx (by rw [← hfx]; exact (by simpa using h3_))
        refine aw_skipB ?_
        refine thenA_n ?_
        refine aw_region ?_
        refine al_opd rfl rfl rfl (ao_mv (v := .int _ _) rfl) ?_
        first | refine al_opd rfl rfl rfl ((ao_add rfl rfl).val (nw_i64 BDp BDp)) ?_ | refine al_opd rfl rfl rfl (ao_add rfl rfl) ?_
        refine al_opd rfl rfl rfl (ao_as (v := .int _ _) rfl) ?_
        refine al_nilT ?_
        refine ⟨_, ?_, _, rfl, i + 1, by omega, rfl, by exact SMp, by exact HLp, ⟨q2, by exact HLp⟩, by exact HLp, by rw [htn]; exact (by exact HLp), by exact HLp, ?_, rfl, rfl, rfl, by rw [htn]; rfl, rfl, by rfl⟩
        · omega
        · exact LNp
    · try simp only [nrm] at h2_
      have hte := top_end (i := i) ha (by omega)
      refine aw_exit ?_
      refine thenA_x ?_
      refine thenA_x ?_
      refine blockA_hit ?_
      refine thenA_n ?_
      refine aw_seq ?_
      refine aw_region ?_
      first | refine al_opd rfl rfl rfl (ao_loada Try.isAgg31 Try.sizeOf31 rfl (by exact HLp) (by rfl) (by first | rfl | exact grid_at hcx | (simp; (first | done | fail)))) ?_ | refine al_opd rfl rfl rfl (ao_loadsV (A := #[.int _ _, .int _ _]) Try.isAgg31 Try.sizeOf31 hsf rfl hx rfl (by decide)) ?_
      refine al_opd rfl rfl rfl (ao_mv (v := .int _ _) rfl) ?_
      first | refine al_opd rfl rfl rfl ((ao_storeL Try.sizeOf31 (by rfl) (by rfl) (by exact HLp) (by first | rfl | exact grid_at hcx | (simp; (first | done | fail))) (by first | rfl | exact grid_at hcx | (simp; (first | done | fail))) (by first | rfl | exact grid_at hcx | (simp; (first | done | fail)))).to (SetR.eq (by exact SRp))) ?_ | refine al_opd rfl rfl rfl ((ao_storeP (ds := [.int _ _, .int _ _]) Try.sizeOf31 (by rfl) (by rfl) (by exact HLp) (by first | rfl | exact grid_at hcx | (simp; (first | done | fail))) (by first | rfl | exact grid_at hcx | (simp; (first | done | fail))) (by first | (rw [gridC_len]; omega) | decide | (simp; omega))).to (SetR.eq (by exact SRp))) ?_
      refine al_opd rfl rfl rfl (ao_as (v := .int _ _) rfl) ?_
      refine al_opd rfl rfl rfl (ao_as (v := .int _ _) rfl) ?_
      refine al_nilT ?_
      refine aw_ret ?_
      refine ends3 rfl (rv_cella Try.isAgg31 Try.sizeOf31 rfl (by exact HLp) (by rfl) (by first | rfl | exact grid_at hcx | (simp; (first | done | fail)))) (rv_tmp (v := .int _ _) rfl) (rv_tmp (v := .int _ _) rfl) ?_
      rw [hte]
      exact ⟨rfl, by exact SMp⟩

-- impl.FarthestFrom
theorem implFar1_c {r : Room} {s : Spot} {H : AHeap} (hw : wfRoom r) (hs : wfSpot s) (hst : stoodC r s true 0) : ACd Try.prog 16 [.agg (roomC r).toArray, .agg #[.int .i8 s.x, .int .i8 s.y]] H (.tuple #[.agg #[.int .i8 (farB r s).x, .int .i8 (farB r s).y], .int .i64 (farM r s (farB r s)), .int .i64 0]) (H) := by
  have ⟨hr, hcl, hf, ha⟩ := stood_ok hst
  have hfl : (freeL r).length ≤ 100 := filter_len r (freeB r) hr.2.1 hr.2.2.2.1
  obtain ⟨c1, hc1⟩ := exists_cellC r [s]
  obtain ⟨c3, hc3⟩ := exists_stateC r [s]
  refine ac_gc0 (fun β => VR.plainT β (by first | rfl | simp [plainT, plainV, plain1])) (ac_body Try.func16 rfl Try.ntmps16 rfl ?_)
  refine aw_seq ?_
  refine aw_region ?_
  refine al_opd rfl rfl rfl (ao_boxa (by rfl)) ?_
  refine al_opd rfl rfl rfl (ao_boxa (by rfl)) ?_
  refine al_opd rfl rfl rfl (ao_alloca (zv31) (by rfl)) ?_
  refine al_opd rfl rfl rfl (ao_as (v := .int _ _) rfl) ?_
  refine al_opd rfl rfl rfl (ao_as (v := .int _ _) rfl) ?_
  refine al_nilT ?_
  refine aw_seq ?_
  refine aw_seq ?_
  refine aw_draw (m := 11) mo (by kernel_rfl) rfl (fun _ _ _ h => h) ?_
  first | refine dw_opd rfl rfl rfl (ao_loada Try.isAgg28 Try.sizeOf28 rfl (by exact HLp) (by rfl) (by exact RFp)) ?_ | refine dw_opd rfl rfl rfl (ao_loadsV (A := #[.int _ _, .int _ _, .int _ _, .int _ _, .int _ _, .int _ _, .int _ _, .int _ _, .int _ _, .int _ _, .int _ _, .int _ _]) Try.isAgg28 Try.sizeOf28 hsf rfl hx rfl (by decide)) ?_
  first | refine dw_opd rfl rfl rfl (ao_loada Try.isAgg31 Try.sizeOf31 rfl (by exact HLp) (by rfl) (by exact RFp)) ?_ | refine dw_opd rfl rfl rfl (ao_loadsV (A := #[.int _ _, .int _ _]) Try.isAgg31 Try.sizeOf31 hsf rfl hx rfl (by decide)) ?_
  refine dw_opn rfl rfl rfl (ao_lit1 (v := .agg _) Try.underlying35 Try.sizeOf31 Try.zeroValue31 (by rfl) (by rfl) rfl rfl (by rfl) (by exact RFp)) ?_
  refine dw_opd rfl rfl rfl (ao_calld (cellCode_c (r := r) (l := [s]) (c := c1) hw (fun i x h => by match i with | 0 => (simp at h; subst h; exact hs) | i + 1 => (simp at h)) (Sl.full spot_len (by exact HLp) rfl rfl rfl) (by simp) hc1) Try.call28 rfl rfl) ?_
  first | refine dw_opd rfl rfl rfl (ao_loada Try.isAgg28 Try.sizeOf28 rfl (by exact HLp) (by rfl) (by exact RFp)) ?_ | refine dw_opd rfl rfl rfl (ao_loadsV (A := #[.int _ _, .int _ _, .int _ _, .int _ _, .int _ _, .int _ _, .int _ _, .int _ _, .int _ _, .int _ _, .int _ _, .int _ _]) Try.isAgg28 Try.sizeOf28 hsf rfl hx rfl (by decide)) ?_
  first | refine dw_opd rfl rfl rfl (ao_loada Try.isAgg31 Try.sizeOf31 rfl (by exact HLp) (by rfl) (by exact RFp)) ?_ | refine dw_opd rfl rfl rfl (ao_loadsV (A := #[.int _ _, .int _ _]) Try.isAgg31 Try.sizeOf31 hsf rfl hx rfl (by decide)) ?_
  refine dw_opn rfl rfl rfl (ao_lit1 (v := .agg _) Try.underlying35 Try.sizeOf31 Try.zeroValue31 (by rfl) (by rfl) rfl rfl (by rfl) (by exact RFp)) ?_
  refine dw_opd rfl rfl rfl (ao_calld (stateCode_c (r := r) (l := [s]) (c := c3) hw (fun i x h => by match i with | 0 => (simp at h; subst h; exact hs) | i + 1 => (simp at h)) (Sl.full spot_len (by exact HLp) rfl rfl rfl) (by simp) hc3) Try.call29 rfl rfl) ?_
  refine dw_opn rfl rfl rfl (ao_buildSlice (A := #[.int .i64 c1, .int .i64 c3]) Try.underlying87 Try.sizeOf2 Try.zeroValue2 (by rfl) (by rfl) (by decide) (by decide) (by rfl) (by first | rfl | kernel_rfl)) ?_
  refine dw_opd rfl rfl rfl (ao_calld (ACd.val (firstOf_c (l := [c1, c3]) (Sl.full i64_len (by exact HLp) rfl rfl rfl) (by simp)) (congrArg (Value.int .i64) (stood_first2 hst hc1 hc3))) Try.call27 rfl rfl) ?_
  refine dw_opd rfl rfl rfl (ao_as (v := .int _ _) rfl) ?_
  refine dw_end ?_
  refine al_nilT ?_
  refine aw_seq ?_
  refine aw_region ?_
  refine al_opd rfl rfl rfl (ao_mv (v := .int _ _) rfl) ?_
  refine al_opd rfl rfl rfl (ao_neq rfl rfl) ?_
  refine al_nilT ?_
  refine aw_cond rfl (fun h1_ => ?_) (fun h1_ => ?_)
  · try simp only [nrm] at h1_
    first | done | omega | (exfalso; revert h1_; simp; (first | done | omega))
  try simp only [nrm] at h1_
  refine aw_skipT ?_
  refine aw_seq ?_
  refine aw_draw (m := 6) mo (by kernel_rfl) rfl (fun _ _ _ h => h) ?_
  first | refine dw_opd rfl rfl rfl (ao_loada Try.isAgg28 Try.sizeOf28 rfl (by exact HLp) (by rfl) (by exact RFp)) ?_ | refine dw_opd rfl rfl rfl (ao_loadsV (A := #[.int _ _, .int _ _, .int _ _, .int _ _, .int _ _, .int _ _, .int _ _, .int _ _, .int _ _, .int _ _, .int _ _, .int _ _]) Try.isAgg28 Try.sizeOf28 hsf rfl hx rfl (by decide)) ?_
  first | refine dw_opd rfl rfl rfl (ao_loada Try.isAgg31 Try.sizeOf31 rfl (by exact HLp) (by rfl) (by exact RFp)) ?_ | refine dw_opd rfl rfl rfl (ao_loadsV (A := #[.int _ _, .int _ _]) Try.isAgg31 Try.sizeOf31 hsf rfl hx rfl (by decide)) ?_
  refine dw_opn rfl rfl rfl (ao_calld (implSteps_c (r := r) (s := s) hw hs ha) Try.call30 rfl rfl) ?_
  first | refine dw_opd rfl rfl rfl (ao_loada Try.isAgg31 Try.sizeOf31 rfl (by exact HLp) (by rfl) (by exact RFp)) ?_ | refine dw_opd rfl rfl rfl (ao_loadsV (A := #[.int _ _, .int _ _]) Try.isAgg31 Try.sizeOf31 hsf rfl hx rfl (by decide)) ?_
  refine dw_opn rfl rfl rfl (ao_alloca (zv31) (by rfl)) ?_
  refine dw_opd rfl rfl rfl (ao_as (v := .map _) rfl) ?_
  refine dw_end ?_
  first | refine al_opd rfl rfl rfl ((ao_storeL Try.sizeOf31 (by rfl) (by rfl) (by exact HLp) (by exact RFp) (by exact RFp) (by exact RFp)).to (SetR.eq (by exact SRp))) ?_ | refine al_opd rfl rfl rfl ((ao_storeP (ds := [.int _ _, .int _ _]) Try.sizeOf31 (by rfl) (by rfl) (by exact HLp) (by exact RFp) (by exact RFp) (by exact LTp)).to (SetR.eq (by exact SRp))) ?_
  refine al_nilT ?_
  refine aw_seq ?_
  refine aw_seq ?_
  refine aw_region ?_
  first | refine al_opd rfl rfl rfl (ao_loada Try.isAgg28 Try.sizeOf28 rfl (by exact HLp) (by rfl) (by exact RFp)) ?_ | refine al_opd rfl rfl rfl (ao_loadsV (A := #[.int _ _, .int _ _, .int _ _, .int _ _, .int _ _, .int _ _, .int _ _, .int _ _, .int _ _, .int _ _, .int _ _, .int _ _]) Try.isAgg28 Try.sizeOf28 hsf rfl hx rfl (by decide)) ?_
  refine al_opd rfl rfl rfl (ao_calld (implFreeL_c (r := r) hr hw) Try.call45 rfl rfl) ?_
  first | refine al_opd rfl rfl rfl (ao_lenS Try.underlying35 (by rfl)) ?_ | refine al_opd rfl rfl rfl (ao_lenN Try.underlying35 (by rfl)) ?_ | refine al_opd rfl rfl rfl (ao_lenV Try.underlying35 rfl hsf) ?_
  refine al_opd rfl rfl rfl (ao_mv (v := .int _ _) rfl) ?_
  refine al_nilT ?_
  refine aw_block ?_
  refine aw_loop (fun (gk : Nat) (fr : AFr) (G : AHeap) => ∃ get : Nat → Value, fr = ⟨72, get⟩ ∧ (∃ i : Nat, i ≤ (freeL r).length ∧ gk = (freeL r).length - i ∧ Same H.next H G ∧ (∃ q, G.blk (H.next + 2) = some (.cells (spot q) 1)) ∧ G.blk (H.next + 6) = some (mapB (found r s)) ∧ G.blk (H.next + 7) = some (.cells (spot (bestI r s i)) 1) ∧ G.blk (H.next + 8) = some (.cells (fl spot (freeL r)) 2) ∧ H.next + 9 ≤ G.next ∧ get 4 = .pointer (some ⟨H.next + 2, 0, none⟩) ∧ get 8 = .map (some (H.next + 6)) ∧ get 9 = .pointer (some ⟨H.next + 7, 0, none⟩) ∧ get 33 = .slice (some ⟨H.next + 8, 0, none⟩) (freeL r).length ((freeL r).length + 1) ∧ get 34 = .int .i64 (freeL r).length ∧ get 35 = .int .i64 i)) ((freeL r).length) ⟨_, rfl, ?_⟩ ?_
  · refine ⟨0, Nat.zero_le _, rfl, by exact SMp, ⟨⟨0, 0⟩, by exact HLp⟩, by exact HLp, by exact HLp, by exact HLp, ?_, rfl, rfl, rfl, rfl, rfl, rfl⟩ <;> exact LNp
  · rintro gk fr G ⟨get, rfl, i, hi, rfl, hG, ⟨q2, hb2⟩, hbm, hb4, hbf, hnx, g4, g8, g9, g33, g34, g35⟩
    have hsf : Sl G spot 2 (.slice (some ⟨H.next + 8, 0, none⟩) (freeL r).length ((freeL r).length + 1)) (freeL r) := Sl.full spot_len hbf rfl rfl rfl
    obtain ⟨vb, hvb⟩ := best_met r s i
    have hvM := farM_some hvb
    have hwb := wf_of_free (best_free ha i)
    refine aw_slot (d := 4) (v := .pointer (some ⟨H.next + 2, 0, none⟩)) (by first | assumption | rfl) ?_
    refine aw_slot (d := 8) (v := .map (some (H.next + 6))) (by first | assumption | rfl) ?_
    refine aw_slot (d := 9) (v := .pointer (some ⟨H.next + 7, 0, none⟩)) (by first | assumption | rfl) ?_
    refine aw_slot (d := 33) (v := .slice (some ⟨H.next + 8, 0, none⟩) (freeL r).length ((freeL r).length + 1)) (by first | assumption | rfl) ?_
    refine aw_slot (d := 34) (v := .int .i64 (freeL r).length) (by first | assumption | rfl) ?_
    refine aw_slot (d := 35) (v := .int .i64 i) (by first | assumption | rfl) ?_
    refine aw_seq ?_
    refine aw_region ?_
    refine al_opd rfl rfl rfl (ao_lss rfl rfl) ?_
    refine al_nilT ?_
    refine aw_seq ?_
    refine aw_cond rfl (fun h2_ => ?_) (fun h2_ => ?_)
    · try simp only [nrm] at h2_
      obtain ⟨x, hx⟩ := get_lt (show i < (freeL r).length by omega)
      have hwx := wf_of_free (free_at hx)
      obtain ⟨lv, ok, hlk⟩ := look_ex (found r s) x
      refine aw_skipT ?_
      refine aw_seq ?_
      refine aw_block ?_
      refine aw_seq ?_
      refine aw_region ?_
      first | refine al_opd rfl rfl rfl (ao_indexAddrS Try.underlying35 Try.sizeOf31 rfl rfl (by exact IXp) (by exact IXp)) ?_ | refine al_opd rfl rfl rfl (ao_indexV Try.underlying35 Try.sizeOf31 rfl rfl hsf (by exact IXp) (by exact IXp)) ?_
      first | refine al_opd rfl rfl rfl (ao_loada Try.isAgg31 Try.sizeOf31 rfl (by exact HLp) (by rfl) (by exact RFp)) ?_ | refine al_opd rfl rfl rfl (ao_loadsV (A := #[.int _ _, .int _ _]) Try.isAgg31 Try.sizeOf31 hsf rfl hx rfl (by decide)) ?_
      refine al_opd rfl rfl rfl (ao_alloca (zv31) (by rfl)) ?_
      first | refine al_opd rfl rfl rfl ((ao_storeL Try.sizeOf31 (by rfl) (by rfl) (by exact HLp) (by exact RFp) (by exact RFp) (by exact RFp)).to (SetR.eq (by exact SRp))) ?_ | refine al_opd rfl rfl rfl ((ao_storeP (ds := [.int _ _, .int _ _]) Try.sizeOf31 (by rfl) (by rfl) (by exact HLp) (by exact RFp) (by exact RFp) (by exact LTp)).to (SetR.eq (by exact SRp))) ?_
      refine al_nilT ?_
      refine aw_seq ?_
      refine aw_region ?_
      refine al_opd rfl rfl rfl (ao_mv (v := .map _) rfl) ?_
      first | refine al_opd rfl rfl rfl (ao_loada Try.isAgg31 Try.sizeOf31 rfl (by exact HLp) (by rfl) (by exact RFp)) ?_ | refine al_opd rfl rfl rfl (ao_loadsV (A := #[.int _ _, .int _ _]) Try.isAgg31 Try.sizeOf31 hsf rfl hx rfl (by decide)) ?_
      refine al_opd rfl rfl rfl (ao_look2 (m := found r s) (k := x) (ke := spV) (ve := ivV) Try.underlying60 keySpot_c (fun _ => rfl) Try.zeroValue2 (by rfl) (by rfl) (by rfl) (by exact HLp) hlk) ?_
      refine al_opd rfl rfl rfl (ao_mv (v := .tuple _) rfl) ?_
      refine al_opd rfl rfl rfl (ao_extract (v := .int _ _) rfl rfl) ?_
      refine al_opd rfl rfl rfl (ao_extract (v := .bool _) rfl rfl) ?_
      refine al_opd rfl rfl rfl (ao_as (v := .int _ _) rfl) ?_
      refine al_opd rfl rfl rfl (ao_as (v := .bool _) rfl) ?_
      refine al_nilT ?_
      refine aw_seq ?_
      refine aw_region ?_
      refine al_opd rfl rfl rfl (ao_mv (v := .bool _) rfl) ?_
      refine al_opd rfl rfl rfl (ao_mv (v := .bool _) rfl) ?_
      refine al_cases (d := 46) rfl (fun h3_ => ?_) (fun h3_ => ?_)
      · try simp only [nrm] at h3_
        have hxv := farM_some (look_yes hlk h3_)
        refine al_gyes rfl rfl rfl rfl rfl (ao_mv (v := .int _ _) rfl) ?_
        refine al_gyes rfl rfl rfl rfl rfl (ao_mv (v := .map _) rfl) ?_
        first | refine al_gyes rfl rfl rfl rfl rfl (ao_loada Try.isAgg31 Try.sizeOf31 rfl (by exact HLp) (by rfl) (by exact RFp)) ?_ | refine al_gyes rfl rfl rfl rfl rfl (ao_loadsV (A := #[.int _ _, .int _ _]) Try.isAgg31 Try.sizeOf31 hsf rfl hx rfl (by decide)) ?_
        refine al_gyes rfl rfl rfl rfl rfl (ao_look1 (m := found r s) (k := bestI r s i) (ok := true) (u := .int .i64 vb) (ke := spV) (ve := ivV) Try.underlying60 keySpot_c (fun _ => rfl) Try.zeroValue2 (by rfl) (by rfl) (by rfl) (by exact HLp) (.inr ⟨vb, hvb, rfl, rfl⟩)) ?_
        refine al_gyes rfl rfl rfl rfl rfl (ao_gtr rfl rfl) ?_
        refine al_gyes rfl rfl rfl rfl rfl (ao_mv (v := .bool _) rfl) ?_
        refine al_cases (d := 52) rfl (fun h4_ => ?_) (fun h4_ => ?_)
        · try simp only [nrm] at h4_
          refine al_gno rfl rfl rfl rfl rfl ?_
          refine al_gno rfl rfl rfl rfl rfl ?_
          refine al_gno rfl rfl rfl rfl rfl ?_
          refine al_gno rfl rfl rfl rfl rfl ?_
          refine al_gno rfl rfl rfl rfl rfl ?_
          refine al_gno rfl rfl rfl rfl rfl ?_
          refine al_gnu rfl rfl rfl rfl ?_
          refine al_gnu rfl rfl rfl rfl ?_
          refine al_gnu rfl rfl rfl rfl ?_
          refine al_gnu rfl rfl rfl rfl ?_
          refine al_gno rfl rfl rfl rfl rfl ?_
          refine al_gyes rfl rfl rfl rfl rfl (ao_pickT rfl (v := .bool _) rfl) ?_
          refine al_opd rfl rfl rfl (ao_pickT rfl (v := .bool _) rfl) ?_
          refine al_nilT ?_
          refine aw_condT (by rfl) ⟨_, rfl⟩ ?_
          refine aw_region ?_
          first | refine al_opd rfl rfl rfl (ao_loada Try.isAgg31 Try.sizeOf31 rfl (by exact HLp) (by rfl) (by exact RFp)) ?_ | refine al_opd rfl rfl rfl (ao_loadsV (A := #[.int _ _, .int _ _]) Try.isAgg31 Try.sizeOf31 hsf rfl hx rfl (by decide)) ?_
          first | refine al_opd rfl rfl rfl ((ao_storeL Try.sizeOf31 (by rfl) (by rfl) (by exact HLp) (by exact RFp) (by exact RFp) (by exact RFp)).to (SetR.eq (by exact SRp))) ?_ | refine al_opd rfl rfl rfl ((ao_storeP (ds := [.int _ _, .int _ _]) Try.sizeOf31 (by rfl) (by rfl) (by exact HLp) (by exact RFp) (by exact RFp) (by exact LTp)).to (SetR.eq (by exact SRp))) ?_
          refine al_nilB ?_
          refine thenA_n ?_
          refine aw_region ?_
          first | refine al_opd rfl rfl rfl ((ao_add rfl rfl).val (nw_i64 BDp BDp)) ?_ | refine al_opd rfl rfl rfl (ao_add rfl rfl) ?_
          refine al_opd rfl rfl rfl (ao_mv (v := .int _ _) rfl) ?_
          refine al_nilT ?_
          refine ⟨_, ?_, _, rfl, i + 1, by omega, rfl, by exact SMp, ⟨q2, by exact HLp⟩, by exact HLp, by rw [best_yes (a := s) hx (.inl (by omega))]; exact (by exact HLp), by exact HLp, ?_, rfl, rfl, rfl, rfl, rfl, by rfl⟩
          · omega
          · exact LNp
        · try simp only [nrm] at h4_
          refine al_gyes rfl rfl rfl rfl rfl (ao_mv (v := .int _ _) rfl) ?_
          refine al_gyes rfl rfl rfl rfl rfl (ao_mv (v := .map _) rfl) ?_
          first | refine al_gyes rfl rfl rfl rfl rfl (ao_loada Try.isAgg31 Try.sizeOf31 rfl (by exact HLp) (by rfl) (by exact RFp)) ?_ | refine al_gyes rfl rfl rfl rfl rfl (ao_loadsV (A := #[.int _ _, .int _ _]) Try.isAgg31 Try.sizeOf31 hsf rfl hx rfl (by decide)) ?_
          refine al_gyes rfl rfl rfl rfl rfl (ao_look1 (m := found r s) (k := bestI r s i) (ok := true) (u := .int .i64 vb) (ke := spV) (ve := ivV) Try.underlying60 keySpot_c (fun _ => rfl) Try.zeroValue2 (by rfl) (by rfl) (by rfl) (by exact HLp) (.inr ⟨vb, hvb, rfl, rfl⟩)) ?_
          refine al_gyes rfl rfl rfl rfl rfl (ao_eql rfl rfl) ?_
          refine al_gyes rfl rfl rfl rfl rfl (ao_mv (v := .bool _) rfl) ?_
          refine al_cases (d := 58) rfl (fun h5_ => ?_) (fun h5_ => ?_)
          · try simp only [nrm] at h5_
            first | refine al_gyes rfl rfl rfl rfl rfl (ao_loada Try.isAgg31 Try.sizeOf31 rfl (by exact HLp) (by rfl) (by exact RFp)) ?_ | refine al_gyes rfl rfl rfl rfl rfl (ao_loadsV (A := #[.int _ _, .int _ _]) Try.isAgg31 Try.sizeOf31 hsf rfl hx rfl (by decide)) ?_
            first | refine al_gyes rfl rfl rfl rfl rfl (ao_loada Try.isAgg31 Try.sizeOf31 rfl (by exact HLp) (by rfl) (by exact RFp)) ?_ | refine al_gyes rfl rfl rfl rfl rfl (ao_loadsV (A := #[.int _ _, .int _ _]) Try.isAgg31 Try.sizeOf31 hsf rfl hx rfl (by decide)) ?_
            refine al_gyes rfl rfl rfl rfl rfl (ao_calld (cmpSpots_c (a := x) (b := bestI r s i) hwx hwb) Try.call37 rfl rfl) ?_
            refine al_gyes rfl rfl rfl rfl rfl (ao_lss rfl rfl) ?_
            refine al_gyes rfl rfl rfl rfl rfl (ao_pickT rfl (v := .bool _) rfl) ?_
            refine al_gyes rfl rfl rfl rfl rfl (ao_pickF rfl (v := .bool _) rfl) ?_
            refine al_opd rfl rfl rfl (ao_pickT rfl (v := .bool _) rfl) ?_
            refine al_nilT ?_
            refine aw_cond rfl (fun h6_ => ?_) (fun h6_ => ?_)
            · try simp only [nrm] at h6_
              refine aw_region ?_
              first | refine al_opd rfl rfl rfl (ao_loada Try.isAgg31 Try.sizeOf31 rfl (by exact HLp) (by rfl) (by exact RFp)) ?_ | refine al_opd rfl rfl rfl (ao_loadsV (A := #[.int _ _, .int _ _]) Try.isAgg31 Try.sizeOf31 hsf rfl hx rfl (by decide)) ?_
              first | refine al_opd rfl rfl rfl ((ao_storeL Try.sizeOf31 (by rfl) (by rfl) (by exact HLp) (by exact RFp) (by exact RFp) (by exact RFp)).to (SetR.eq (by exact SRp))) ?_ | refine al_opd rfl rfl rfl ((ao_storeP (ds := [.int _ _, .int _ _]) Try.sizeOf31 (by rfl) (by rfl) (by exact HLp) (by exact RFp) (by exact RFp) (by exact LTp)).to (SetR.eq (by exact SRp))) ?_
              refine al_nilB ?_
              refine thenA_n ?_
              refine aw_region ?_
              first | refine al_opd rfl rfl rfl ((ao_add rfl rfl).val (nw_i64 BDp BDp)) ?_ | refine al_opd rfl rfl rfl (ao_add rfl rfl) ?_
              refine al_opd rfl rfl rfl (ao_mv (v := .int _ _) rfl) ?_
              refine al_nilT ?_
              refine ⟨_, ?_, _, rfl, i + 1, by omega, rfl, by exact SMp, ⟨q2, by exact HLp⟩, by exact HLp, by rw [best_yes (a := s) hx (.inr ⟨by omega, cmpS_lt.mp (by omega)⟩)]; exact (by exact HLp), by exact HLp, ?_, rfl, rfl, rfl, rfl, rfl, by rfl⟩
              · omega
              · exact LNp
            · try simp only [nrm] at h6_
              refine aw_skipB ?_
              refine thenA_n ?_
              refine aw_region ?_
              first | refine al_opd rfl rfl rfl ((ao_add rfl rfl).val (nw_i64 BDp BDp)) ?_ | refine al_opd rfl rfl rfl (ao_add rfl rfl) ?_
              refine al_opd rfl rfl rfl (ao_mv (v := .int _ _) rfl) ?_
              refine al_nilT ?_
              refine ⟨_, ?_, _, rfl, i + 1, by omega, rfl, by exact SMp, ⟨q2, by exact HLp⟩, by exact HLp, by rw [best_no (a := s) hx (fun e => e.elim (fun e => by omega) fun e => by have := cmpS_lt.mpr e.2; omega)]; exact (by exact HLp), by exact HLp, ?_, rfl, rfl, rfl, rfl, rfl, by rfl⟩
              · omega
              · exact LNp
          · try simp only [nrm] at h5_
            refine al_gno rfl rfl rfl rfl rfl ?_
            refine al_gno rfl rfl rfl rfl rfl ?_
            refine al_gno rfl rfl rfl rfl rfl ?_
            refine al_gno rfl rfl rfl rfl rfl ?_
            refine al_gyes rfl rfl rfl rfl rfl (ao_pickF rfl (v := .bool _) rfl) ?_
            refine al_gyes rfl rfl rfl rfl rfl (ao_pickF rfl (v := .bool _) rfl) ?_
            refine al_opd rfl rfl rfl (ao_pickT rfl (v := .bool _) rfl) ?_
            refine al_nilT ?_
            refine aw_condF (by rfl) ⟨_, rfl⟩ ?_
            refine aw_skipB ?_
            refine thenA_n ?_
            refine aw_region ?_
            first | refine al_opd rfl rfl rfl ((ao_add rfl rfl).val (nw_i64 BDp BDp)) ?_ | refine al_opd rfl rfl rfl (ao_add rfl rfl) ?_
            refine al_opd rfl rfl rfl (ao_mv (v := .int _ _) rfl) ?_
            refine al_nilT ?_
            refine ⟨_, ?_, _, rfl, i + 1, by omega, rfl, by exact SMp, ⟨q2, by exact HLp⟩, by exact HLp, by rw [best_no (a := s) hx (fun e => by omega)]; exact (by exact HLp), by exact HLp, ?_, rfl, rfl, rfl, rfl, rfl, by rfl⟩
            · omega
            · exact LNp
      · try simp only [nrm] at h3_
        have hxv := farM_none (look_no hlk h3_)
        have hv0 := (found_pos ha hvb).1
        refine al_gno rfl rfl rfl rfl rfl ?_
        refine al_gno rfl rfl rfl rfl rfl ?_
        refine al_gno rfl rfl rfl rfl rfl ?_
        refine al_gno rfl rfl rfl rfl rfl ?_
        refine al_gno rfl rfl rfl rfl rfl ?_
        refine al_gno rfl rfl rfl rfl rfl ?_
        refine al_gnu rfl rfl rfl rfl ?_
        refine al_gnu rfl rfl rfl rfl ?_
        refine al_gnu rfl rfl rfl rfl ?_
        refine al_gnu rfl rfl rfl rfl ?_
        refine al_gnu rfl rfl rfl rfl ?_
        refine al_gnu rfl rfl rfl rfl ?_
        refine al_gnu rfl rfl rfl rfl ?_
        refine al_gnu rfl rfl rfl rfl ?_
        refine al_gnu rfl rfl rfl rfl ?_
        refine al_gnu rfl rfl rfl rfl ?_
        refine al_gnu rfl rfl rfl rfl ?_
        refine al_gno rfl rfl rfl rfl rfl ?_
        refine al_opd rfl rfl rfl (ao_pickF rfl (v := .bool _) rfl) ?_
        refine al_nilT ?_
        refine aw_condF (by rfl) ⟨_, rfl⟩ ?_
        refine aw_skipB ?_
        refine thenA_n ?_
        refine aw_region ?_
        first | refine al_opd rfl rfl rfl ((ao_add rfl rfl).val (nw_i64 BDp BDp)) ?_ | refine al_opd rfl rfl rfl (ao_add rfl rfl) ?_
        refine al_opd rfl rfl rfl (ao_mv (v := .int _ _) rfl) ?_
        refine al_nilT ?_
        refine ⟨_, ?_, _, rfl, i + 1, by omega, rfl, by exact SMp, ⟨q2, by exact HLp⟩, by exact HLp, by rw [best_no (a := s) hx (fun e => by omega)]; exact (by exact HLp), by exact HLp, ?_, rfl, rfl, rfl, rfl, rfl, by rfl⟩
        · omega
        · exact LNp
    · try simp only [nrm] at h2_
      have hbe := best_end (r := r) (a := s) (i := i) (by omega)
      refine aw_exit ?_
      refine thenA_x ?_
      refine thenA_x ?_
      refine blockA_hit ?_
      refine thenA_n ?_
      refine aw_seq ?_
      refine aa_region mo ?_
      refine aa_three (i := 0) (j := 1) (l := 2) (by kernel_rfl) ?_ ?_ ?_
      · try skip
        first | refine aa_o rfl rfl rfl rfl (ao_loada Try.isAgg31 Try.sizeOf31 rfl (by exact HLp) (by rfl) (by exact RFp)) ?_ | refine aa_o rfl rfl rfl rfl (ao_loadsV (A := #[.int _ _, .int _ _]) Try.isAgg31 Try.sizeOf31 hsf rfl hx rfl (by decide)) ?_
        refine aa_three (i := 1) (j := 2) (l := 4) (by kernel_rfl) ?_ ?_ ?_
        · try skip
          refine aa_o rfl rfl rfl rfl (ao_mv (v := .map _) rfl) ?_
          refine aa_two (i := 2) (j := 4) (by kernel_rfl) ?_ ?_
          · try skip
            first | refine aa_o rfl rfl rfl rfl (ao_loada Try.isAgg31 Try.sizeOf31 rfl (by exact HLp) (by rfl) (by exact RFp)) ?_ | refine aa_o rfl rfl rfl rfl (ao_loadsV (A := #[.int _ _, .int _ _]) Try.isAgg31 Try.sizeOf31 hsf rfl hx rfl (by decide)) ?_
            refine aa_two (i := 3) (j := 4) (by kernel_rfl) ?_ ?_
            · try skip
              refine aa_o rfl rfl rfl rfl (ao_look1 (m := found r s) (k := bestI r s i) (ok := true) (u := .int .i64 vb) (ke := spV) (ve := ivV) Try.underlying60 keySpot_c (fun _ => rfl) Try.zeroValue2 (by rfl) (by rfl) (by rfl) (by exact HLp) (.inr ⟨vb, hvb, rfl, rfl⟩)) ?_
              refine aa_one (i := 4) (by kernel_rfl) ?_
              first | refine aa_o rfl rfl rfl rfl ((ao_storeL Try.sizeOf31 (by rfl) (by rfl) (by exact HLp) (by exact RFp) (by exact RFp) (by exact RFp)).to (SetR.eq (by exact SRp))) ?_ | refine aa_o rfl rfl rfl rfl ((ao_storeP (ds := [.int _ _, .int _ _]) Try.sizeOf31 (by rfl) (by rfl) (by exact HLp) (by exact RFp) (by exact RFp) (by exact LTp)).to (SetR.eq (by exact SRp))) ?_
              refine aa_one (i := 5) (by kernel_rfl) ?_
              refine aa_o rfl rfl rfl rfl (ao_as (v := .int _ _) rfl) ?_
              refine aa_one (i := 6) (by kernel_rfl) ?_
              refine aa_o rfl rfl rfl rfl (ao_as (v := .int _ _) rfl) ?_
              refine aa_done (by kernel_rfl) ?_
              refine thenA_n ?_
              refine aw_ret ?_
              refine ends3 rfl (rv_cella Try.isAgg31 Try.sizeOf31 rfl (by exact HLp) (by rfl) (by exact RFp)) (rv_tmp (v := .int _ _) rfl) (rv_tmp (v := .int _ _) rfl) ?_
              rw [hbe]
              rw [hbe] at hvM
              exact ⟨by rw [hvM]; rfl, by exact SMp⟩
            · try skip
              first | refine aa_o rfl rfl rfl rfl ((ao_storeL Try.sizeOf31 (by rfl) (by rfl) (by exact HLp) (by exact RFp) (by exact RFp) (by exact RFp)).to (SetR.eq (by exact SRp))) ?_ | refine aa_o rfl rfl rfl rfl ((ao_storeP (ds := [.int _ _, .int _ _]) Try.sizeOf31 (by rfl) (by rfl) (by exact HLp) (by exact RFp) (by exact RFp) (by exact LTp)).to (SetR.eq (by exact SRp))) ?_
              refine aa_one (i := 3) (by kernel_rfl) ?_
              refine aa_o rfl rfl rfl rfl (ao_look1 (m := found r s) (k := bestI r s i) (ok := true) (u := .int .i64 vb) (ke := spV) (ve := ivV) Try.underlying60 keySpot_c (fun _ => rfl) Try.zeroValue2 (by rfl) (by rfl) (by rfl) (by exact HLp) (.inr ⟨vb, hvb, rfl, rfl⟩)) ?_
              refine aa_one (i := 5) (by kernel_rfl) ?_
              refine aa_o rfl rfl rfl rfl (ao_as (v := .int _ _) rfl) ?_
              refine aa_one (i := 6) (by kernel_rfl) ?_
              refine aa_o rfl rfl rfl rfl (ao_as (v := .int _ _) rfl) ?_
              refine aa_done (by kernel_rfl) ?_
              refine thenA_n ?_
              refine aw_ret ?_
              refine ends3 rfl (rv_cella Try.isAgg31 Try.sizeOf31 rfl (by exact HLp) (by rfl) (by exact RFp)) (rv_tmp (v := .int _ _) rfl) (rv_tmp (v := .int _ _) rfl) ?_
              rw [hbe]
              rw [hbe] at hvM
              exact ⟨by rw [hvM]; rfl, by exact SMp⟩
          · try skip
            first | refine aa_o rfl rfl rfl rfl ((ao_storeL Try.sizeOf31 (by rfl) (by rfl) (by exact HLp) (by exact RFp) (by exact RFp) (by exact RFp)).to (SetR.eq (by exact SRp))) ?_ | refine aa_o rfl rfl rfl rfl ((ao_storeP (ds := [.int _ _, .int _ _]) Try.sizeOf31 (by rfl) (by rfl) (by exact HLp) (by exact RFp) (by exact RFp) (by exact LTp)).to (SetR.eq (by exact SRp))) ?_
            refine aa_one (i := 2) (by kernel_rfl) ?_
            first | refine aa_o rfl rfl rfl rfl (ao_loada Try.isAgg31 Try.sizeOf31 rfl (by exact HLp) (by rfl) (by exact RFp)) ?_ | refine aa_o rfl rfl rfl rfl (ao_loadsV (A := #[.int _ _, .int _ _]) Try.isAgg31 Try.sizeOf31 hsf rfl hx rfl (by decide)) ?_
            refine aa_one (i := 3) (by kernel_rfl) ?_
            refine aa_o rfl rfl rfl rfl (ao_look1 (m := found r s) (k := bestI r s i) (ok := true) (u := .int .i64 vb) (ke := spV) (ve := ivV) Try.underlying60 keySpot_c (fun _ => rfl) Try.zeroValue2 (by rfl) (by rfl) (by rfl) (by exact HLp) (.inr ⟨vb, hvb, rfl, rfl⟩)) ?_
            refine aa_one (i := 5) (by kernel_rfl) ?_
            refine aa_o rfl rfl rfl rfl (ao_as (v := .int _ _) rfl) ?_
            refine aa_one (i := 6) (by kernel_rfl) ?_
            refine aa_o rfl rfl rfl rfl (ao_as (v := .int _ _) rfl) ?_
            refine aa_done (by kernel_rfl) ?_
            refine thenA_n ?_
            refine aw_ret ?_
            refine ends3 rfl (rv_cella Try.isAgg31 Try.sizeOf31 rfl (by exact HLp) (by rfl) (by exact RFp)) (rv_tmp (v := .int _ _) rfl) (rv_tmp (v := .int _ _) rfl) ?_
            rw [hbe]
            rw [hbe] at hvM
            exact ⟨by rw [hvM]; rfl, by exact SMp⟩
        · try skip
          first | refine aa_o rfl rfl rfl rfl (ao_loada Try.isAgg31 Try.sizeOf31 rfl (by exact HLp) (by rfl) (by exact RFp)) ?_ | refine aa_o rfl rfl rfl rfl (ao_loadsV (A := #[.int _ _, .int _ _]) Try.isAgg31 Try.sizeOf31 hsf rfl hx rfl (by decide)) ?_
          refine aa_two (i := 1) (j := 4) (by kernel_rfl) ?_ ?_
          · try skip
            refine aa_o rfl rfl rfl rfl (ao_mv (v := .map _) rfl) ?_
            refine aa_two (i := 3) (j := 4) (by kernel_rfl) ?_ ?_
            · try skip
              refine aa_o rfl rfl rfl rfl (ao_look1 (m := found r s) (k := bestI r s i) (ok := true) (u := .int .i64 vb) (ke := spV) (ve := ivV) Try.underlying60 keySpot_c (fun _ => rfl) Try.zeroValue2 (by rfl) (by rfl) (by rfl) (by exact HLp) (.inr ⟨vb, hvb, rfl, rfl⟩)) ?_
              refine aa_one (i := 4) (by kernel_rfl) ?_
              first | refine aa_o rfl rfl rfl rfl ((ao_storeL Try.sizeOf31 (by rfl) (by rfl) (by exact HLp) (by exact RFp) (by exact RFp) (by exact RFp)).to (SetR.eq (by exact SRp))) ?_ | refine aa_o rfl rfl rfl rfl ((ao_storeP (ds := [.int _ _, .int _ _]) Try.sizeOf31 (by rfl) (by rfl) (by exact HLp) (by exact RFp) (by exact RFp) (by exact LTp)).to (SetR.eq (by exact SRp))) ?_
              refine aa_one (i := 5) (by kernel_rfl) ?_
              refine aa_o rfl rfl rfl rfl (ao_as (v := .int _ _) rfl) ?_
              refine aa_one (i := 6) (by kernel_rfl) ?_
              refine aa_o rfl rfl rfl rfl (ao_as (v := .int _ _) rfl) ?_
              refine aa_done (by kernel_rfl) ?_
              refine thenA_n ?_
              refine aw_ret ?_
              refine ends3 rfl (rv_cella Try.isAgg31 Try.sizeOf31 rfl (by exact HLp) (by rfl) (by exact RFp)) (rv_tmp (v := .int _ _) rfl) (rv_tmp (v := .int _ _) rfl) ?_
              rw [hbe]
              rw [hbe] at hvM
              exact ⟨by rw [hvM]; rfl, by exact SMp⟩
            · try skip
              first | refine aa_o rfl rfl rfl rfl ((ao_storeL Try.sizeOf31 (by rfl) (by rfl) (by exact HLp) (by exact RFp) (by exact RFp) (by exact RFp)).to (SetR.eq (by exact SRp))) ?_ | refine aa_o rfl rfl rfl rfl ((ao_storeP (ds := [.int _ _, .int _ _]) Try.sizeOf31 (by rfl) (by rfl) (by exact HLp) (by exact RFp) (by exact RFp) (by exact LTp)).to (SetR.eq (by exact SRp))) ?_
              refine aa_one (i := 3) (by kernel_rfl) ?_
              refine aa_o rfl rfl rfl rfl (ao_look1 (m := found r s) (k := bestI r s i) (ok := true) (u := .int .i64 vb) (ke := spV) (ve := ivV) Try.underlying60 keySpot_c (fun _ => rfl) Try.zeroValue2 (by rfl) (by rfl) (by rfl) (by exact HLp) (.inr ⟨vb, hvb, rfl, rfl⟩)) ?_
              refine aa_one (i := 5) (by kernel_rfl) ?_
              refine aa_o rfl rfl rfl rfl (ao_as (v := .int _ _) rfl) ?_
              refine aa_one (i := 6) (by kernel_rfl) ?_
              refine aa_o rfl rfl rfl rfl (ao_as (v := .int _ _) rfl) ?_
              refine aa_done (by kernel_rfl) ?_
              refine thenA_n ?_
              refine aw_ret ?_
              refine ends3 rfl (rv_cella Try.isAgg31 Try.sizeOf31 rfl (by exact HLp) (by rfl) (by exact RFp)) (rv_tmp (v := .int _ _) rfl) (rv_tmp (v := .int _ _) rfl) ?_
              rw [hbe]
              rw [hbe] at hvM
              exact ⟨by rw [hvM]; rfl, by exact SMp⟩
          · try skip
            first | refine aa_o rfl rfl rfl rfl ((ao_storeL Try.sizeOf31 (by rfl) (by rfl) (by exact HLp) (by exact RFp) (by exact RFp) (by exact RFp)).to (SetR.eq (by exact SRp))) ?_ | refine aa_o rfl rfl rfl rfl ((ao_storeP (ds := [.int _ _, .int _ _]) Try.sizeOf31 (by rfl) (by rfl) (by exact HLp) (by exact RFp) (by exact RFp) (by exact LTp)).to (SetR.eq (by exact SRp))) ?_
            refine aa_one (i := 1) (by kernel_rfl) ?_
            refine aa_o rfl rfl rfl rfl (ao_mv (v := .map _) rfl) ?_
            refine aa_one (i := 3) (by kernel_rfl) ?_
            refine aa_o rfl rfl rfl rfl (ao_look1 (m := found r s) (k := bestI r s i) (ok := true) (u := .int .i64 vb) (ke := spV) (ve := ivV) Try.underlying60 keySpot_c (fun _ => rfl) Try.zeroValue2 (by rfl) (by rfl) (by rfl) (by exact HLp) (.inr ⟨vb, hvb, rfl, rfl⟩)) ?_
            refine aa_one (i := 5) (by kernel_rfl) ?_
            refine aa_o rfl rfl rfl rfl (ao_as (v := .int _ _) rfl) ?_
            refine aa_one (i := 6) (by kernel_rfl) ?_
            refine aa_o rfl rfl rfl rfl (ao_as (v := .int _ _) rfl) ?_
            refine aa_done (by kernel_rfl) ?_
            refine thenA_n ?_
            refine aw_ret ?_
            refine ends3 rfl (rv_cella Try.isAgg31 Try.sizeOf31 rfl (by exact HLp) (by rfl) (by exact RFp)) (rv_tmp (v := .int _ _) rfl) (rv_tmp (v := .int _ _) rfl) ?_
            rw [hbe]
            rw [hbe] at hvM
            exact ⟨by rw [hvM]; rfl, by exact SMp⟩
        · try skip
          first | refine aa_o rfl rfl rfl rfl ((ao_storeL Try.sizeOf31 (by rfl) (by rfl) (by exact HLp) (by exact RFp) (by exact RFp) (by exact RFp)).to (SetR.eq (by exact SRp))) ?_ | refine aa_o rfl rfl rfl rfl ((ao_storeP (ds := [.int _ _, .int _ _]) Try.sizeOf31 (by rfl) (by rfl) (by exact HLp) (by exact RFp) (by exact RFp) (by exact LTp)).to (SetR.eq (by exact SRp))) ?_
          refine aa_two (i := 1) (j := 2) (by kernel_rfl) ?_ ?_
          · try skip
            refine aa_o rfl rfl rfl rfl (ao_mv (v := .map _) rfl) ?_
            refine aa_one (i := 2) (by kernel_rfl) ?_
            first | refine aa_o rfl rfl rfl rfl (ao_loada Try.isAgg31 Try.sizeOf31 rfl (by exact HLp) (by rfl) (by exact RFp)) ?_ | refine aa_o rfl rfl rfl rfl (ao_loadsV (A := #[.int _ _, .int _ _]) Try.isAgg31 Try.sizeOf31 hsf rfl hx rfl (by decide)) ?_
            refine aa_one (i := 3) (by kernel_rfl) ?_
            refine aa_o rfl rfl rfl rfl (ao_look1 (m := found r s) (k := bestI r s i) (ok := true) (u := .int .i64 vb) (ke := spV) (ve := ivV) Try.underlying60 keySpot_c (fun _ => rfl) Try.zeroValue2 (by rfl) (by rfl) (by rfl) (by exact HLp) (.inr ⟨vb, hvb, rfl, rfl⟩)) ?_
            refine aa_one (i := 5) (by kernel_rfl) ?_
            refine aa_o rfl rfl rfl rfl (ao_as (v := .int _ _) rfl) ?_
            refine aa_one (i := 6) (by kernel_rfl) ?_
            refine aa_o rfl rfl rfl rfl (ao_as (v := .int _ _) rfl) ?_
            refine aa_done (by kernel_rfl) ?_
            refine thenA_n ?_
            refine aw_ret ?_
            refine ends3 rfl (rv_cella Try.isAgg31 Try.sizeOf31 rfl (by exact HLp) (by rfl) (by exact RFp)) (rv_tmp (v := .int _ _) rfl) (rv_tmp (v := .int _ _) rfl) ?_
            rw [hbe]
            rw [hbe] at hvM
            exact ⟨by rw [hvM]; rfl, by exact SMp⟩
          · try skip
            first | refine aa_o rfl rfl rfl rfl (ao_loada Try.isAgg31 Try.sizeOf31 rfl (by exact HLp) (by rfl) (by exact RFp)) ?_ | refine aa_o rfl rfl rfl rfl (ao_loadsV (A := #[.int _ _, .int _ _]) Try.isAgg31 Try.sizeOf31 hsf rfl hx rfl (by decide)) ?_
            refine aa_one (i := 1) (by kernel_rfl) ?_
            refine aa_o rfl rfl rfl rfl (ao_mv (v := .map _) rfl) ?_
            refine aa_one (i := 3) (by kernel_rfl) ?_
            refine aa_o rfl rfl rfl rfl (ao_look1 (m := found r s) (k := bestI r s i) (ok := true) (u := .int .i64 vb) (ke := spV) (ve := ivV) Try.underlying60 keySpot_c (fun _ => rfl) Try.zeroValue2 (by rfl) (by rfl) (by rfl) (by exact HLp) (.inr ⟨vb, hvb, rfl, rfl⟩)) ?_
            refine aa_one (i := 5) (by kernel_rfl) ?_
            refine aa_o rfl rfl rfl rfl (ao_as (v := .int _ _) rfl) ?_
            refine aa_one (i := 6) (by kernel_rfl) ?_
            refine aa_o rfl rfl rfl rfl (ao_as (v := .int _ _) rfl) ?_
            refine aa_done (by kernel_rfl) ?_
            refine thenA_n ?_
            refine aw_ret ?_
            refine ends3 rfl (rv_cella Try.isAgg31 Try.sizeOf31 rfl (by exact HLp) (by rfl) (by exact RFp)) (rv_tmp (v := .int _ _) rfl) (rv_tmp (v := .int _ _) rfl) ?_
            rw [hbe]
            rw [hbe] at hvM
            exact ⟨by rw [hvM]; rfl, by exact SMp⟩
      · try skip
        refine aa_o rfl rfl rfl rfl (ao_mv (v := .map _) rfl) ?_
        refine aa_two (i := 0) (j := 2) (by kernel_rfl) ?_ ?_
        · try skip
          first | refine aa_o rfl rfl rfl rfl (ao_loada Try.isAgg31 Try.sizeOf31 rfl (by exact HLp) (by rfl) (by exact RFp)) ?_ | refine aa_o rfl rfl rfl rfl (ao_loadsV (A := #[.int _ _, .int _ _]) Try.isAgg31 Try.sizeOf31 hsf rfl hx rfl (by decide)) ?_
          refine aa_two (i := 2) (j := 4) (by kernel_rfl) ?_ ?_
          · try skip
            first | refine aa_o rfl rfl rfl rfl (ao_loada Try.isAgg31 Try.sizeOf31 rfl (by exact HLp) (by rfl) (by exact RFp)) ?_ | refine aa_o rfl rfl rfl rfl (ao_loadsV (A := #[.int _ _, .int _ _]) Try.isAgg31 Try.sizeOf31 hsf rfl hx rfl (by decide)) ?_
            refine aa_two (i := 3) (j := 4) (by kernel_rfl) ?_ ?_
            · try skip
              refine aa_o rfl rfl rfl rfl (ao_look1 (m := found r s) (k := bestI r s i) (ok := true) (u := .int .i64 vb) (ke := spV) (ve := ivV) Try.underlying60 keySpot_c (fun _ => rfl) Try.zeroValue2 (by rfl) (by rfl) (by rfl) (by exact HLp) (.inr ⟨vb, hvb, rfl, rfl⟩)) ?_
              refine aa_one (i := 4) (by kernel_rfl) ?_
              first | refine aa_o rfl rfl rfl rfl ((ao_storeL Try.sizeOf31 (by rfl) (by rfl) (by exact HLp) (by exact RFp) (by exact RFp) (by exact RFp)).to (SetR.eq (by exact SRp))) ?_ | refine aa_o rfl rfl rfl rfl ((ao_storeP (ds := [.int _ _, .int _ _]) Try.sizeOf31 (by rfl) (by rfl) (by exact HLp) (by exact RFp) (by exact RFp) (by exact LTp)).to (SetR.eq (by exact SRp))) ?_
              refine aa_one (i := 5) (by kernel_rfl) ?_
              refine aa_o rfl rfl rfl rfl (ao_as (v := .int _ _) rfl) ?_
              refine aa_one (i := 6) (by kernel_rfl) ?_
              refine aa_o rfl rfl rfl rfl (ao_as (v := .int _ _) rfl) ?_
              refine aa_done (by kernel_rfl) ?_
              refine thenA_n ?_
              refine aw_ret ?_
              refine ends3 rfl (rv_cella Try.isAgg31 Try.sizeOf31 rfl (by exact HLp) (by rfl) (by exact RFp)) (rv_tmp (v := .int _ _) rfl) (rv_tmp (v := .int _ _) rfl) ?_
              rw [hbe]
              rw [hbe] at hvM
              exact ⟨by rw [hvM]; rfl, by exact SMp⟩
            · try skip
              first | refine aa_o rfl rfl rfl rfl ((ao_storeL Try.sizeOf31 (by rfl) (by rfl) (by exact HLp) (by exact RFp) (by exact RFp) (by exact RFp)).to (SetR.eq (by exact SRp))) ?_ | refine aa_o rfl rfl rfl rfl ((ao_storeP (ds := [.int _ _, .int _ _]) Try.sizeOf31 (by rfl) (by rfl) (by exact HLp) (by exact RFp) (by exact RFp) (by exact LTp)).to (SetR.eq (by exact SRp))) ?_
              refine aa_one (i := 3) (by kernel_rfl) ?_
              refine aa_o rfl rfl rfl rfl (ao_look1 (m := found r s) (k := bestI r s i) (ok := true) (u := .int .i64 vb) (ke := spV) (ve := ivV) Try.underlying60 keySpot_c (fun _ => rfl) Try.zeroValue2 (by rfl) (by rfl) (by rfl) (by exact HLp) (.inr ⟨vb, hvb, rfl, rfl⟩)) ?_
              refine aa_one (i := 5) (by kernel_rfl) ?_
              refine aa_o rfl rfl rfl rfl (ao_as (v := .int _ _) rfl) ?_
              refine aa_one (i := 6) (by kernel_rfl) ?_
              refine aa_o rfl rfl rfl rfl (ao_as (v := .int _ _) rfl) ?_
              refine aa_done (by kernel_rfl) ?_
              refine thenA_n ?_
              refine aw_ret ?_
              refine ends3 rfl (rv_cella Try.isAgg31 Try.sizeOf31 rfl (by exact HLp) (by rfl) (by exact RFp)) (rv_tmp (v := .int _ _) rfl) (rv_tmp (v := .int _ _) rfl) ?_
              rw [hbe]
              rw [hbe] at hvM
              exact ⟨by rw [hvM]; rfl, by exact SMp⟩
          · try skip
            first | refine aa_o rfl rfl rfl rfl ((ao_storeL Try.sizeOf31 (by rfl) (by rfl) (by exact HLp) (by exact RFp) (by exact RFp) (by exact RFp)).to (SetR.eq (by exact SRp))) ?_ | refine aa_o rfl rfl rfl rfl ((ao_storeP (ds := [.int _ _, .int _ _]) Try.sizeOf31 (by rfl) (by rfl) (by exact HLp) (by exact RFp) (by exact RFp) (by exact LTp)).to (SetR.eq (by exact SRp))) ?_
            refine aa_one (i := 2) (by kernel_rfl) ?_
            first | refine aa_o rfl rfl rfl rfl (ao_loada Try.isAgg31 Try.sizeOf31 rfl (by exact HLp) (by rfl) (by exact RFp)) ?_ | refine aa_o rfl rfl rfl rfl (ao_loadsV (A := #[.int _ _, .int _ _]) Try.isAgg31 Try.sizeOf31 hsf rfl hx rfl (by decide)) ?_
            refine aa_one (i := 3) (by kernel_rfl) ?_
            refine aa_o rfl rfl rfl rfl (ao_look1 (m := found r s) (k := bestI r s i) (ok := true) (u := .int .i64 vb) (ke := spV) (ve := ivV) Try.underlying60 keySpot_c (fun _ => rfl) Try.zeroValue2 (by rfl) (by rfl) (by rfl) (by exact HLp) (.inr ⟨vb, hvb, rfl, rfl⟩)) ?_
            refine aa_one (i := 5) (by kernel_rfl) ?_
            refine aa_o rfl rfl rfl rfl (ao_as (v := .int _ _) rfl) ?_
            refine aa_one (i := 6) (by kernel_rfl) ?_
            refine aa_o rfl rfl rfl rfl (ao_as (v := .int _ _) rfl) ?_
            refine aa_done (by kernel_rfl) ?_
            refine thenA_n ?_
            refine aw_ret ?_
            refine ends3 rfl (rv_cella Try.isAgg31 Try.sizeOf31 rfl (by exact HLp) (by rfl) (by exact RFp)) (rv_tmp (v := .int _ _) rfl) (rv_tmp (v := .int _ _) rfl) ?_
            rw [hbe]
            rw [hbe] at hvM
            exact ⟨by rw [hvM]; rfl, by exact SMp⟩
        · try skip
          first | refine aa_o rfl rfl rfl rfl (ao_loada Try.isAgg31 Try.sizeOf31 rfl (by exact HLp) (by rfl) (by exact RFp)) ?_ | refine aa_o rfl rfl rfl rfl (ao_loadsV (A := #[.int _ _, .int _ _]) Try.isAgg31 Try.sizeOf31 hsf rfl hx rfl (by decide)) ?_
          refine aa_two (i := 0) (j := 3) (by kernel_rfl) ?_ ?_
          · try skip
            first | refine aa_o rfl rfl rfl rfl (ao_loada Try.isAgg31 Try.sizeOf31 rfl (by exact HLp) (by rfl) (by exact RFp)) ?_ | refine aa_o rfl rfl rfl rfl (ao_loadsV (A := #[.int _ _, .int _ _]) Try.isAgg31 Try.sizeOf31 hsf rfl hx rfl (by decide)) ?_
            refine aa_two (i := 3) (j := 4) (by kernel_rfl) ?_ ?_
            · try skip
              refine aa_o rfl rfl rfl rfl (ao_look1 (m := found r s) (k := bestI r s i) (ok := true) (u := .int .i64 vb) (ke := spV) (ve := ivV) Try.underlying60 keySpot_c (fun _ => rfl) Try.zeroValue2 (by rfl) (by rfl) (by rfl) (by exact HLp) (.inr ⟨vb, hvb, rfl, rfl⟩)) ?_
              refine aa_one (i := 4) (by kernel_rfl) ?_
              first | refine aa_o rfl rfl rfl rfl ((ao_storeL Try.sizeOf31 (by rfl) (by rfl) (by exact HLp) (by exact RFp) (by exact RFp) (by exact RFp)).to (SetR.eq (by exact SRp))) ?_ | refine aa_o rfl rfl rfl rfl ((ao_storeP (ds := [.int _ _, .int _ _]) Try.sizeOf31 (by rfl) (by rfl) (by exact HLp) (by exact RFp) (by exact RFp) (by exact LTp)).to (SetR.eq (by exact SRp))) ?_
              refine aa_one (i := 5) (by kernel_rfl) ?_
              refine aa_o rfl rfl rfl rfl (ao_as (v := .int _ _) rfl) ?_
              refine aa_one (i := 6) (by kernel_rfl) ?_
              refine aa_o rfl rfl rfl rfl (ao_as (v := .int _ _) rfl) ?_
              refine aa_done (by kernel_rfl) ?_
              refine thenA_n ?_
              refine aw_ret ?_
              refine ends3 rfl (rv_cella Try.isAgg31 Try.sizeOf31 rfl (by exact HLp) (by rfl) (by exact RFp)) (rv_tmp (v := .int _ _) rfl) (rv_tmp (v := .int _ _) rfl) ?_
              rw [hbe]
              rw [hbe] at hvM
              exact ⟨by rw [hvM]; rfl, by exact SMp⟩
            · try skip
              first | refine aa_o rfl rfl rfl rfl ((ao_storeL Try.sizeOf31 (by rfl) (by rfl) (by exact HLp) (by exact RFp) (by exact RFp) (by exact RFp)).to (SetR.eq (by exact SRp))) ?_ | refine aa_o rfl rfl rfl rfl ((ao_storeP (ds := [.int _ _, .int _ _]) Try.sizeOf31 (by rfl) (by rfl) (by exact HLp) (by exact RFp) (by exact RFp) (by exact LTp)).to (SetR.eq (by exact SRp))) ?_
              refine aa_one (i := 3) (by kernel_rfl) ?_
              refine aa_o rfl rfl rfl rfl (ao_look1 (m := found r s) (k := bestI r s i) (ok := true) (u := .int .i64 vb) (ke := spV) (ve := ivV) Try.underlying60 keySpot_c (fun _ => rfl) Try.zeroValue2 (by rfl) (by rfl) (by rfl) (by exact HLp) (.inr ⟨vb, hvb, rfl, rfl⟩)) ?_
              refine aa_one (i := 5) (by kernel_rfl) ?_
              refine aa_o rfl rfl rfl rfl (ao_as (v := .int _ _) rfl) ?_
              refine aa_one (i := 6) (by kernel_rfl) ?_
              refine aa_o rfl rfl rfl rfl (ao_as (v := .int _ _) rfl) ?_
              refine aa_done (by kernel_rfl) ?_
              refine thenA_n ?_
              refine aw_ret ?_
              refine ends3 rfl (rv_cella Try.isAgg31 Try.sizeOf31 rfl (by exact HLp) (by rfl) (by exact RFp)) (rv_tmp (v := .int _ _) rfl) (rv_tmp (v := .int _ _) rfl) ?_
              rw [hbe]
              rw [hbe] at hvM
              exact ⟨by rw [hvM]; rfl, by exact SMp⟩
          · try skip
            refine aa_o rfl rfl rfl rfl (ao_look1 (m := found r s) (k := bestI r s i) (ok := true) (u := .int .i64 vb) (ke := spV) (ve := ivV) Try.underlying60 keySpot_c (fun _ => rfl) Try.zeroValue2 (by rfl) (by rfl) (by rfl) (by exact HLp) (.inr ⟨vb, hvb, rfl, rfl⟩)) ?_
            refine aa_one (i := 0) (by kernel_rfl) ?_
            first | refine aa_o rfl rfl rfl rfl (ao_loada Try.isAgg31 Try.sizeOf31 rfl (by exact HLp) (by rfl) (by exact RFp)) ?_ | refine aa_o rfl rfl rfl rfl (ao_loadsV (A := #[.int _ _, .int _ _]) Try.isAgg31 Try.sizeOf31 hsf rfl hx rfl (by decide)) ?_
            refine aa_one (i := 4) (by kernel_rfl) ?_
            first | refine aa_o rfl rfl rfl rfl ((ao_storeL Try.sizeOf31 (by rfl) (by rfl) (by exact HLp) (by exact RFp) (by exact RFp) (by exact RFp)).to (SetR.eq (by exact SRp))) ?_ | refine aa_o rfl rfl rfl rfl ((ao_storeP (ds := [.int _ _, .int _ _]) Try.sizeOf31 (by rfl) (by rfl) (by exact HLp) (by exact RFp) (by exact RFp) (by exact LTp)).to (SetR.eq (by exact SRp))) ?_
            refine aa_one (i := 5) (by kernel_rfl) ?_
            refine aa_o rfl rfl rfl rfl (ao_as (v := .int _ _) rfl) ?_
            refine aa_one (i := 6) (by kernel_rfl) ?_
            refine aa_o rfl rfl rfl rfl (ao_as (v := .int _ _) rfl) ?_
            refine aa_done (by kernel_rfl) ?_
            refine thenA_n ?_
            refine aw_ret ?_
            refine ends3 rfl (rv_cella Try.isAgg31 Try.sizeOf31 rfl (by exact HLp) (by rfl) (by exact RFp)) (rv_tmp (v := .int _ _) rfl) (rv_tmp (v := .int _ _) rfl) ?_
            rw [hbe]
            rw [hbe] at hvM
            exact ⟨by rw [hvM]; rfl, by exact SMp⟩
      · try skip
        first | refine aa_o rfl rfl rfl rfl (ao_loada Try.isAgg31 Try.sizeOf31 rfl (by exact HLp) (by rfl) (by exact RFp)) ?_ | refine aa_o rfl rfl rfl rfl (ao_loadsV (A := #[.int _ _, .int _ _]) Try.isAgg31 Try.sizeOf31 hsf rfl hx rfl (by decide)) ?_
        refine aa_two (i := 0) (j := 1) (by kernel_rfl) ?_ ?_
        · try skip
          first | refine aa_o rfl rfl rfl rfl (ao_loada Try.isAgg31 Try.sizeOf31 rfl (by exact HLp) (by rfl) (by exact RFp)) ?_ | refine aa_o rfl rfl rfl rfl (ao_loadsV (A := #[.int _ _, .int _ _]) Try.isAgg31 Try.sizeOf31 hsf rfl hx rfl (by decide)) ?_
          refine aa_two (i := 1) (j := 4) (by kernel_rfl) ?_ ?_
          · try skip
            refine aa_o rfl rfl rfl rfl (ao_mv (v := .map _) rfl) ?_
            refine aa_two (i := 3) (j := 4) (by kernel_rfl) ?_ ?_
            · try skip
              refine aa_o rfl rfl rfl rfl (ao_look1 (m := found r s) (k := bestI r s i) (ok := true) (u := .int .i64 vb) (ke := spV) (ve := ivV) Try.underlying60 keySpot_c (fun _ => rfl) Try.zeroValue2 (by rfl) (by rfl) (by rfl) (by exact HLp) (.inr ⟨vb, hvb, rfl, rfl⟩)) ?_
              refine aa_one (i := 4) (by kernel_rfl) ?_
              first | refine aa_o rfl rfl rfl rfl ((ao_storeL Try.sizeOf31 (by rfl) (by rfl) (by exact HLp) (by exact RFp) (by exact RFp) (by exact RFp)).to (SetR.eq (by exact SRp))) ?_ | refine aa_o rfl rfl rfl rfl ((ao_storeP (ds := [.int _ _, .int _ _]) Try.sizeOf31 (by rfl) (by rfl) (by exact HLp) (by exact RFp) (by exact RFp) (by exact LTp)).to (SetR.eq (by exact SRp))) ?_
              refine aa_one (i := 5) (by kernel_rfl) ?_
              refine aa_o rfl rfl rfl rfl (ao_as (v := .int _ _) rfl) ?_
              refine aa_one (i := 6) (by kernel_rfl) ?_
              refine aa_o rfl rfl rfl rfl (ao_as (v := .int _ _) rfl) ?_
              refine aa_done (by kernel_rfl) ?_
              refine thenA_n ?_
              refine aw_ret ?_
              refine ends3 rfl (rv_cella Try.isAgg31 Try.sizeOf31 rfl (by exact HLp) (by rfl) (by exact RFp)) (rv_tmp (v := .int _ _) rfl) (rv_tmp (v := .int _ _) rfl) ?_
              rw [hbe]
              rw [hbe] at hvM
              exact ⟨by rw [hvM]; rfl, by exact SMp⟩
            · try skip
              first | refine aa_o rfl rfl rfl rfl ((ao_storeL Try.sizeOf31 (by rfl) (by rfl) (by exact HLp) (by exact RFp) (by exact RFp) (by exact RFp)).to (SetR.eq (by exact SRp))) ?_ | refine aa_o rfl rfl rfl rfl ((ao_storeP (ds := [.int _ _, .int _ _]) Try.sizeOf31 (by rfl) (by rfl) (by exact HLp) (by exact RFp) (by exact RFp) (by exact LTp)).to (SetR.eq (by exact SRp))) ?_
              refine aa_one (i := 3) (by kernel_rfl) ?_
              refine aa_o rfl rfl rfl rfl (ao_look1 (m := found r s) (k := bestI r s i) (ok := true) (u := .int .i64 vb) (ke := spV) (ve := ivV) Try.underlying60 keySpot_c (fun _ => rfl) Try.zeroValue2 (by rfl) (by rfl) (by rfl) (by exact HLp) (.inr ⟨vb, hvb, rfl, rfl⟩)) ?_
              refine aa_one (i := 5) (by kernel_rfl) ?_
              refine aa_o rfl rfl rfl rfl (ao_as (v := .int _ _) rfl) ?_
              refine aa_one (i := 6) (by kernel_rfl) ?_
              refine aa_o rfl rfl rfl rfl (ao_as (v := .int _ _) rfl) ?_
              refine aa_done (by kernel_rfl) ?_
              refine thenA_n ?_
              refine aw_ret ?_
              refine ends3 rfl (rv_cella Try.isAgg31 Try.sizeOf31 rfl (by exact HLp) (by rfl) (by exact RFp)) (rv_tmp (v := .int _ _) rfl) (rv_tmp (v := .int _ _) rfl) ?_
              rw [hbe]
              rw [hbe] at hvM
              exact ⟨by rw [hvM]; rfl, by exact SMp⟩
          · try skip
            first | refine aa_o rfl rfl rfl rfl ((ao_storeL Try.sizeOf31 (by rfl) (by rfl) (by exact HLp) (by exact RFp) (by exact RFp) (by exact RFp)).to (SetR.eq (by exact SRp))) ?_ | refine aa_o rfl rfl rfl rfl ((ao_storeP (ds := [.int _ _, .int _ _]) Try.sizeOf31 (by rfl) (by rfl) (by exact HLp) (by exact RFp) (by exact RFp) (by exact LTp)).to (SetR.eq (by exact SRp))) ?_
            refine aa_one (i := 1) (by kernel_rfl) ?_
            refine aa_o rfl rfl rfl rfl (ao_mv (v := .map _) rfl) ?_
            refine aa_one (i := 3) (by kernel_rfl) ?_
            refine aa_o rfl rfl rfl rfl (ao_look1 (m := found r s) (k := bestI r s i) (ok := true) (u := .int .i64 vb) (ke := spV) (ve := ivV) Try.underlying60 keySpot_c (fun _ => rfl) Try.zeroValue2 (by rfl) (by rfl) (by rfl) (by exact HLp) (.inr ⟨vb, hvb, rfl, rfl⟩)) ?_
            refine aa_one (i := 5) (by kernel_rfl) ?_
            refine aa_o rfl rfl rfl rfl (ao_as (v := .int _ _) rfl) ?_
            refine aa_one (i := 6) (by kernel_rfl) ?_
            refine aa_o rfl rfl rfl rfl (ao_as (v := .int _ _) rfl) ?_
            refine aa_done (by kernel_rfl) ?_
            refine thenA_n ?_
            refine aw_ret ?_
            refine ends3 rfl (rv_cella Try.isAgg31 Try.sizeOf31 rfl (by exact HLp) (by rfl) (by exact RFp)) (rv_tmp (v := .int _ _) rfl) (rv_tmp (v := .int _ _) rfl) ?_
            rw [hbe]
            rw [hbe] at hvM
            exact ⟨by rw [hvM]; rfl, by exact SMp⟩
        · try skip
          refine aa_o rfl rfl rfl rfl (ao_mv (v := .map _) rfl) ?_
          refine aa_two (i := 0) (j := 3) (by kernel_rfl) ?_ ?_
          · try skip
            first | refine aa_o rfl rfl rfl rfl (ao_loada Try.isAgg31 Try.sizeOf31 rfl (by exact HLp) (by rfl) (by exact RFp)) ?_ | refine aa_o rfl rfl rfl rfl (ao_loadsV (A := #[.int _ _, .int _ _]) Try.isAgg31 Try.sizeOf31 hsf rfl hx rfl (by decide)) ?_
            refine aa_two (i := 3) (j := 4) (by kernel_rfl) ?_ ?_
            · try skip
              refine aa_o rfl rfl rfl rfl (ao_look1 (m := found r s) (k := bestI r s i) (ok := true) (u := .int .i64 vb) (ke := spV) (ve := ivV) Try.underlying60 keySpot_c (fun _ => rfl) Try.zeroValue2 (by rfl) (by rfl) (by rfl) (by exact HLp) (.inr ⟨vb, hvb, rfl, rfl⟩)) ?_
              refine aa_one (i := 4) (by kernel_rfl) ?_
              first | refine aa_o rfl rfl rfl rfl ((ao_storeL Try.sizeOf31 (by rfl) (by rfl) (by exact HLp) (by exact RFp) (by exact RFp) (by exact RFp)).to (SetR.eq (by exact SRp))) ?_ | refine aa_o rfl rfl rfl rfl ((ao_storeP (ds := [.int _ _, .int _ _]) Try.sizeOf31 (by rfl) (by rfl) (by exact HLp) (by exact RFp) (by exact RFp) (by exact LTp)).to (SetR.eq (by exact SRp))) ?_
              refine aa_one (i := 5) (by kernel_rfl) ?_
              refine aa_o rfl rfl rfl rfl (ao_as (v := .int _ _) rfl) ?_
              refine aa_one (i := 6) (by kernel_rfl) ?_
              refine aa_o rfl rfl rfl rfl (ao_as (v := .int _ _) rfl) ?_
              refine aa_done (by kernel_rfl) ?_
              refine thenA_n ?_
              refine aw_ret ?_
              refine ends3 rfl (rv_cella Try.isAgg31 Try.sizeOf31 rfl (by exact HLp) (by rfl) (by exact RFp)) (rv_tmp (v := .int _ _) rfl) (rv_tmp (v := .int _ _) rfl) ?_
              rw [hbe]
              rw [hbe] at hvM
              exact ⟨by rw [hvM]; rfl, by exact SMp⟩
            · try skip
              first | refine aa_o rfl rfl rfl rfl ((ao_storeL Try.sizeOf31 (by rfl) (by rfl) (by exact HLp) (by exact RFp) (by exact RFp) (by exact RFp)).to (SetR.eq (by exact SRp))) ?_ | refine aa_o rfl rfl rfl rfl ((ao_storeP (ds := [.int _ _, .int _ _]) Try.sizeOf31 (by rfl) (by rfl) (by exact HLp) (by exact RFp) (by exact RFp) (by exact LTp)).to (SetR.eq (by exact SRp))) ?_
              refine aa_one (i := 3) (by kernel_rfl) ?_
              refine aa_o rfl rfl rfl rfl (ao_look1 (m := found r s) (k := bestI r s i) (ok := true) (u := .int .i64 vb) (ke := spV) (ve := ivV) Try.underlying60 keySpot_c (fun _ => rfl) Try.zeroValue2 (by rfl) (by rfl) (by rfl) (by exact HLp) (.inr ⟨vb, hvb, rfl, rfl⟩)) ?_
              refine aa_one (i := 5) (by kernel_rfl) ?_
              refine aa_o rfl rfl rfl rfl (ao_as (v := .int _ _) rfl) ?_
              refine aa_one (i := 6) (by kernel_rfl) ?_
              refine aa_o rfl rfl rfl rfl (ao_as (v := .int _ _) rfl) ?_
              refine aa_done (by kernel_rfl) ?_
              refine thenA_n ?_
              refine aw_ret ?_
              refine ends3 rfl (rv_cella Try.isAgg31 Try.sizeOf31 rfl (by exact HLp) (by rfl) (by exact RFp)) (rv_tmp (v := .int _ _) rfl) (rv_tmp (v := .int _ _) rfl) ?_
              rw [hbe]
              rw [hbe] at hvM
              exact ⟨by rw [hvM]; rfl, by exact SMp⟩
          · try skip
            refine aa_o rfl rfl rfl rfl (ao_look1 (m := found r s) (k := bestI r s i) (ok := true) (u := .int .i64 vb) (ke := spV) (ve := ivV) Try.underlying60 keySpot_c (fun _ => rfl) Try.zeroValue2 (by rfl) (by rfl) (by rfl) (by exact HLp) (.inr ⟨vb, hvb, rfl, rfl⟩)) ?_
            refine aa_one (i := 0) (by kernel_rfl) ?_
            first | refine aa_o rfl rfl rfl rfl (ao_loada Try.isAgg31 Try.sizeOf31 rfl (by exact HLp) (by rfl) (by exact RFp)) ?_ | refine aa_o rfl rfl rfl rfl (ao_loadsV (A := #[.int _ _, .int _ _]) Try.isAgg31 Try.sizeOf31 hsf rfl hx rfl (by decide)) ?_
            refine aa_one (i := 4) (by kernel_rfl) ?_
            first | refine aa_o rfl rfl rfl rfl ((ao_storeL Try.sizeOf31 (by rfl) (by rfl) (by exact HLp) (by exact RFp) (by exact RFp) (by exact RFp)).to (SetR.eq (by exact SRp))) ?_ | refine aa_o rfl rfl rfl rfl ((ao_storeP (ds := [.int _ _, .int _ _]) Try.sizeOf31 (by rfl) (by rfl) (by exact HLp) (by exact RFp) (by exact RFp) (by exact LTp)).to (SetR.eq (by exact SRp))) ?_
            refine aa_one (i := 5) (by kernel_rfl) ?_
            refine aa_o rfl rfl rfl rfl (ao_as (v := .int _ _) rfl) ?_
            refine aa_one (i := 6) (by kernel_rfl) ?_
            refine aa_o rfl rfl rfl rfl (ao_as (v := .int _ _) rfl) ?_
            refine aa_done (by kernel_rfl) ?_
            refine thenA_n ?_
            refine aw_ret ?_
            refine ends3 rfl (rv_cella Try.isAgg31 Try.sizeOf31 rfl (by exact HLp) (by rfl) (by exact RFp)) (rv_tmp (v := .int _ _) rfl) (rv_tmp (v := .int _ _) rfl) ?_
            rw [hbe]
            rw [hbe] at hvM
            exact ⟨by rw [hvM]; rfl, by exact SMp⟩

end Go.Proofs.Ytmafkbminigbcaa
