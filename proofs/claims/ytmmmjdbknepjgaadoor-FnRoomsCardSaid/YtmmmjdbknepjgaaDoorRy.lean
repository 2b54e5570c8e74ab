/- Contracts of the program's functions over abstract heaps. -/
import Derived.Test.YtmmmjdbknepjgaaDoorRm
import Derived.Test.YtmmmjdbknepjgaaDoorVr
import Derived.Test.YtmmmjdbknepjgaaDoorFn
namespace Go.Proofs.YtmmmjdbknepjgaaDoor
open Go Go.AW Go.Proofs
set_option linter.unusedVariables false
set_option linter.unusedSimpArgs false
set_option maxRecDepth 100000
set_option maxHeartbeats 2000000

-- spec.l01Beside
theorem l01Beside_c {r : Room} {s : Spot} {pb0 : Nat} {H : AHeap} (hp0 : H.blk pb0 = some (.cells (roomC r) 1)) (hr : okRoom r) (hw : wfRoom r) (hs : wfSpot s) : ACd Tryd.prog 85 [.pointer (some ⟨pb0, 0, none⟩), .agg #[.int .i8 s.x, .int .i8 s.y]] H (.slice (some ⟨H.next, 0, none⟩) (beside r s).length ((beside r s).length + 1)) (H.push (.cells (fl spot (beside r s)) 2)) := by
  have hltp := AHeap.lt hp0
  refine ac_gcs (vrl_fl spot_plain _) (ac_body Tryd.func85 rfl Tryd.ntmps85 rfl ?_)
  refine aw_seq ?_
  refine aw_region ?_
  refine al_opd rfl rfl rfl (ao_boxa (by rfl)) ?_
  refine al_opd rfl rfl rfl (ao_as (v := .slice _ _ _) rfl) ?_
  refine al_nilT ?_
  refine aw_seq ?_
  refine aw_region ?_
  refine al_opd rfl rfl rfl (ao_lit0 Tryd.underlying37 Tryd.sizeOf48 Tryd.zeroValue48 (by rfl) (by rfl) rfl) ?_
  refine al_opd rfl rfl rfl (ao_as (v := .slice _ _ _) rfl) ?_
  refine al_nilT ?_
  refine aw_seq ?_
  refine aw_seq ?_
  refine aw_region ?_
  refine al_opd rfl rfl rfl (ao_as (v := .int _ _) rfl) ?_
  refine al_nilT ?_
  refine aw_block ?_
  refine aw_loop (fun (gk : Nat) (fr : AFr) (G : AHeap) => ∃ get : Nat → Value, fr = ⟨24, get⟩ ∧ (∃ (i n pb c : Nat), i ≤ 4 ∧ gk = 4 - i ∧ Same H.next H G ∧ G.blk H.next = some (.cells [.int .i8 s.x, .int .i8 s.y] 1) ∧ H.next + 1 ≤ pb ∧ pb < G.next ∧ G.blk pb = some (.cells (fl spot (besideTo r s i)) 2) ∧ n = (besideTo r s i).length ∧ n ≤ c ∧ get 5 = .slice (some ⟨pb, 0, none⟩) n c ∧ get 6 = .int .i64 i ∧ get 0 = .pointer (some ⟨pb0, 0, none⟩) ∧ get 3 = .pointer (some ⟨H.next, 0, none⟩))) (4) ⟨_, rfl, ?_⟩ ?_
  · refine ⟨0, 0, _, _, by omega, rfl, by exact SMp, by exact HLp, ?_, ?_, by exact HLp, rfl, Nat.le_refl _, rfl, rfl, rfl, rfl⟩ <;> exact LNp
  · rintro gk fr G ⟨get, rfl, i, n, pb, c, hi, rfl, hG, hb0, hpb, hlt, hkb, hn, hc, g5, gi, k0, k1⟩
    have hlen := beside_len r s i
    have hp : G.blk pb0 = some (.cells (roomC r) 1) := (hG _ hltp).trans hp0
    refine aw_slot (d := 5) (v := .slice (some ⟨pb, 0, none⟩) n c) (by first | assumption | rfl) ?_
    refine aw_slot (d := 6) (v := .int .i64 i) (by first | assumption | rfl) ?_
    refine aw_slot (d := 0) (v := .pointer (some ⟨pb0, 0, none⟩)) (by first | assumption | rfl) ?_
    refine aw_slot (d := 3) (v := .pointer (some ⟨H.next, 0, none⟩)) (by first | assumption | rfl) ?_
    refine aw_seq ?_
    refine aw_seq ?_
    refine aw_region ?_
    refine al_opd rfl rfl rfl (ao_mv (v := .int _ _) rfl) ?_
    refine al_opd rfl rfl rfl (ao_lss rfl rfl) ?_
    refine al_nilT ?_
    refine aw_cond rfl (fun h1_ => ?_) (fun h1_ => ?_)
    · try simp only [nrm] at h1_
      refine aw_skipT ?_
      refine aw_seq ?_
      refine aw_block ?_
      refine aw_seq ?_
      refine aw_region ?_
      refine al_opd rfl rfl rfl (ao_loada Tryd.isAgg48 Tryd.sizeOf48 rfl (by exact HLp) (by rfl) (by exact RFp)) ?_
      refine al_opd rfl rfl rfl (ao_mv (v := .int _ _) rfl) ?_
      refine al_opd rfl rfl rfl (ao_calld (l01Next_c (s := s) (k := (i : Nat))) Tryd.call61 rfl rfl) ?_
      refine al_opd rfl rfl rfl (ao_alloca (zv48) (by rfl)) ?_
      first | refine al_opd rfl rfl rfl ((ao_storeL Tryd.sizeOf48 (by rfl) (by rfl) (by exact HLp) (by exact RFp) (by exact RFp) (by exact RFp)).to (SetR.eq (by exact SRp))) ?_ | refine al_opd rfl rfl rfl ((ao_storeP (ds := [.int _ _, .int _ _]) Tryd.sizeOf48 (by rfl) (by rfl) (by exact HLp) (by exact RFp) (by exact RFp) (by exact LTp)).to (SetR.eq (by exact SRp))) ?_
      refine al_nilT ?_
      refine aw_seq ?_
      refine aw_region ?_
      refine al_opd rfl rfl rfl (ao_mv (v := .pointer _) rfl) ?_
      refine al_opd rfl rfl rfl (ao_loada Tryd.isAgg48 Tryd.sizeOf48 rfl (by exact HLp) (by rfl) (by exact RFp)) ?_
      refine al_opd rfl rfl rfl (ao_calld (l01Free_c (r := r) (s := nextSpot s (i : Nat)) (b := freeB r (nextSpot s (i : Nat))) (by exact HLp) hr hw (wf_next hs _) (freeB_iff _ _)) Tryd.call46 rfl rfl) ?_
      refine al_nilT ?_
      refine aw_cond rfl (fun h2_ => ?_) (fun h2_ => ?_)
      · try simp only [nrm] at h2_
        refine aw_region ?_
        refine al_opd rfl rfl rfl (ao_mv (v := .slice _ _ _) rfl) ?_
        refine al_opd rfl rfl rfl (ao_loada Tryd.isAgg48 Tryd.sizeOf48 rfl (by exact HLp) (by rfl) (by exact RFp)) ?_
        refine al_opd rfl rfl rfl (ao_lit1 (v := .agg _) Tryd.underlying37 Tryd.sizeOf48 Tryd.zeroValue48 (by rfl) (by rfl) rfl rfl (by rfl) (by exact RFp)) ?_
        refine al_opd rfl rfl rfl (ao_appC Tryd.underlying37 ⟨_, Tryd.underlying37⟩ elem48 (by rfl) (by rfl) (by exact HLp) (by (rw [fl_len spot_len, ← hn]; omega)) (by exact SCp) (by first | rfl | simp [isOne]) (by exact BDp) (by exact BDp)) ?_
        refine al_opd rfl rfl rfl (ao_as (v := .slice _ _ _) rfl) ?_
        refine al_nilB ?_
        refine thenA_n ?_
        refine aw_region ?_
        refine al_opd rfl rfl rfl (ao_mv (v := .int _ _) rfl) ?_
        first | refine al_opd rfl rfl rfl ((ao_add rfl rfl).val (nw_i64 BDp BDp)) ?_ | refine al_opd rfl rfl rfl (ao_add rfl rfl) ?_
        refine al_opd rfl rfl rfl (ao_as (v := .int _ _) rfl) ?_
        refine al_nilT ?_
        refine ⟨_, ?_, _, rfl, i + 1, n + 1, _, _, by omega, rfl, by exact SMp, by exact HLp, ?_, ?_, by rw [beside_yes h2_, fl_snoc]; exact (by exact HLp), by rw [beside_yes h2_, List.length_append, ← hn]; rfl, Nat.le_succ _, rfl, by rfl, rfl, rfl⟩
        · omega
        · exact LNp
        · exact LNp
      · try simp only [nrm] at h2_
        refine aw_skipB ?_
        refine thenA_n ?_
        refine aw_region ?_
        refine al_opd rfl rfl rfl (ao_mv (v := .int _ _) rfl) ?_
        first | refine al_opd rfl rfl rfl ((ao_add rfl rfl).val (nw_i64 BDp BDp)) ?_ | refine al_opd rfl rfl rfl (ao_add rfl rfl) ?_
        refine al_opd rfl rfl rfl (ao_as (v := .int _ _) rfl) ?_
        refine al_nilT ?_
        refine ⟨_, ?_, _, rfl, i + 1, n, pb, c, by omega, rfl, by exact SMp, by exact HLp, ?_, ?_, by rw [beside_no (by simpa using h2_)]; exact (by exact HLp), by rw [beside_no (by simpa using h2_)]; exact hn, hc, rfl, by rfl, rfl, rfl⟩
        · omega
        · exact LNp
        · exact LNp
    · try simp only [nrm] at h1_
      refine aw_exit ?_
      refine thenA_x ?_
      refine thenA_x ?_
      refine blockA_hit ?_
      refine thenA_n ?_
      refine aw_seq ?_
      refine aw_region ?_
      refine al_opd rfl rfl rfl (ao_mv (v := .slice _ _ _) rfl) ?_
      refine al_opd rfl rfl rfl (ao_as (v := .slice _ _ _) rfl) ?_
      refine al_nilT ?_
      refine aw_ret ?_
      refine ends1 rfl (rv_tmp (v := .slice _ _ _) rfl) ?_
      obtain rfl : i = 4 := by omega
      subst hn
      exact ⟨hG, pb, by omega, hkb, fun ρ h => vr_sl h (by unfold beside; omega) (by unfold beside; omega)⟩

-- (impl.Room).beside
theorem implBeside_c {r : Room} {s : Spot} {H : AHeap} (hw : wfRoom r) (hs : wfSpot s) : ACd Tryd.prog 60 [.agg (roomC r).toArray, .agg #[.int .i8 s.x, .int .i8 s.y]] H (.slice (some ⟨H.next, 0, none⟩) (beside r s).length ((beside r s).length + 1)) (H.push (.cells (fl spot (beside r s)) 2)) := by
  refine ac_gcs (vrl_fl spot_plain _) (ac_body Tryd.func60 rfl Tryd.ntmps60 rfl ?_)
  refine aw_seq ?_
  refine aw_region ?_
  refine al_opd rfl rfl rfl (ao_boxa (by rfl)) ?_
  refine al_opd rfl rfl rfl (ao_boxa (by rfl)) ?_
  refine al_opd rfl rfl rfl (ao_as (v := .slice _ _ _) rfl) ?_
  refine al_nilT ?_
  refine aw_seq ?_
  refine aw_region ?_
  refine al_opd rfl rfl rfl (ao_lit0 Tryd.underlying37 Tryd.sizeOf48 Tryd.zeroValue48 (by rfl) (by rfl) rfl) ?_
  refine al_opd rfl rfl rfl (ao_as (v := .slice _ _ _) rfl) ?_
  refine al_nilT ?_
  refine aw_seq ?_
  refine aw_seq ?_
  refine aw_region ?_
  refine al_opd rfl rfl rfl (ao_mv (v := .int _ _) rfl) ?_
  refine al_nilT ?_
  refine aw_block ?_
  refine aw_loop (fun (gk : Nat) (fr : AFr) (G : AHeap) => ∃ get : Nat → Value, fr = ⟨24, get⟩ ∧ (∃ (i n pb c : Nat), i ≤ 4 ∧ gk = 4 - i ∧ Same H.next H G ∧ G.blk H.next = some (.cells (roomC r) 1) ∧ G.blk (H.next + 1) = some (.cells [.int .i8 s.x, .int .i8 s.y] 1) ∧ H.next + 2 ≤ pb ∧ pb < G.next ∧ G.blk pb = some (.cells (fl spot (besideTo r s i)) 2) ∧ n = (besideTo r s i).length ∧ n ≤ c ∧ get 5 = .slice (some ⟨pb, 0, none⟩) n c ∧ get 9 = .int .i64 i ∧ get 2 = .pointer (some ⟨H.next, 0, none⟩) ∧ get 3 = .pointer (some ⟨H.next + 1, 0, none⟩))) (4) ⟨_, rfl, ?_⟩ ?_
  · refine ⟨0, 0, _, _, by omega, rfl, by exact SMp, by exact HLp, by exact HLp, ?_, ?_, by exact HLp, rfl, Nat.le_refl _, rfl, rfl, rfl, rfl⟩ <;> exact LNp
  · rintro gk fr G ⟨get, rfl, i, n, pb, c, hi, rfl, hG, hb0, hb1, hpb, hlt, hkb, hn, hc, g5, gi, k0, k1⟩
    have hlen := beside_len r s i
    refine aw_slot (d := 5) (v := .slice (some ⟨pb, 0, none⟩) n c) (by first | assumption | rfl) ?_
    refine aw_slot (d := 9) (v := .int .i64 i) (by first | assumption | rfl) ?_
    refine aw_slot (d := 2) (v := .pointer (some ⟨H.next, 0, none⟩)) (by first | assumption | rfl) ?_
    refine aw_slot (d := 3) (v := .pointer (some ⟨H.next + 1, 0, none⟩)) (by first | assumption | rfl) ?_
    refine aw_seq ?_
    refine aw_region ?_
    refine al_opd rfl rfl rfl (ao_lss rfl rfl) ?_
    refine al_nilT ?_
    refine aw_seq ?_
    refine aw_cond rfl (fun h1_ => ?_) (fun h1_ => ?_)
    · try simp only [nrm] at h1_
      refine aw_skipT ?_
      refine aw_seq ?_
      refine aw_block ?_
      refine aw_seq ?_
      refine aw_region ?_
      refine al_opd rfl rfl rfl (ao_mv (v := .int _ _) rfl) ?_
      refine al_opd rfl rfl rfl (ao_as (v := .int _ _) rfl) ?_
      refine al_nilT ?_
      refine aw_seq ?_
      refine aw_region ?_
      refine al_opd rfl rfl rfl (ao_loada Tryd.isAgg48 Tryd.sizeOf48 rfl (by exact HLp) (by rfl) (by exact RFp)) ?_
      refine al_opd rfl rfl rfl (ao_mv (v := .int _ _) rfl) ?_
      refine al_opd rfl rfl rfl (ao_calld (implNext_c (s := s) (k := (i : Nat))) Tryd.call28 rfl rfl) ?_
      refine al_opd rfl rfl rfl (ao_alloca (zv48) (by rfl)) ?_
      first | refine al_opd rfl rfl rfl ((ao_storeL Tryd.sizeOf48 (by rfl) (by rfl) (by exact HLp) (by exact RFp) (by exact RFp) (by exact RFp)).to (SetR.eq (by exact SRp))) ?_ | refine al_opd rfl rfl rfl ((ao_storeP (ds := [.int _ _, .int _ _]) Tryd.sizeOf48 (by rfl) (by rfl) (by exact HLp) (by exact RFp) (by exact RFp) (by exact LTp)).to (SetR.eq (by exact SRp))) ?_
      refine al_nilT ?_
      refine aw_seq ?_
      refine aw_region ?_
      refine al_opd rfl rfl rfl (ao_loada Tryd.isAgg28 Tryd.sizeOf28 rfl (by exact HLp) (by rfl) (by exact RFp)) ?_
      refine al_opd rfl rfl rfl (ao_loada Tryd.isAgg48 Tryd.sizeOf48 rfl (by exact HLp) (by rfl) (by exact RFp)) ?_
      refine al_opd rfl rfl rfl (ao_calld (isFree_c (r := r) (s := nextSpot s (i : Nat)) (b := freeB r (nextSpot s (i : Nat))) hw (wf_next hs _) (freeB_iff _ _)) Tryd.call41 rfl rfl) ?_
      refine al_nilT ?_
      refine aw_cond rfl (fun h2_ => ?_) (fun h2_ => ?_)
      · try simp only [nrm] at h2_
        refine aw_region ?_
        refine al_opd rfl rfl rfl (ao_mv (v := .slice _ _ _) rfl) ?_
        refine al_opd rfl rfl rfl (ao_loada Tryd.isAgg48 Tryd.sizeOf48 rfl (by exact HLp) (by rfl) (by exact RFp)) ?_
        refine al_opd rfl rfl rfl (ao_lit1 (v := .agg _) Tryd.underlying37 Tryd.sizeOf48 Tryd.zeroValue48 (by rfl) (by rfl) rfl rfl (by rfl) (by exact RFp)) ?_
        refine al_opd rfl rfl rfl (ao_appC Tryd.underlying37 ⟨_, Tryd.underlying37⟩ elem48 (by rfl) (by rfl) (by exact HLp) (by (rw [fl_len spot_len, ← hn]; omega)) (by exact SCp) (by first | rfl | simp [isOne]) (by exact BDp) (by exact BDp)) ?_
        refine al_opd rfl rfl rfl (ao_as (v := .slice _ _ _) rfl) ?_
        refine al_nilB ?_
        refine thenA_n ?_
        refine aw_region ?_
        first | refine al_opd rfl rfl rfl ((ao_add rfl rfl).val (nw_i64 BDp BDp)) ?_ | refine al_opd rfl rfl rfl (ao_add rfl rfl) ?_
        refine al_opd rfl rfl rfl (ao_mv (v := .int _ _) rfl) ?_
        refine al_nilT ?_
        refine ⟨_, ?_, _, rfl, i + 1, n + 1, _, _, by omega, rfl, by exact SMp, by exact HLp, by exact HLp, ?_, ?_, by rw [beside_yes h2_, fl_snoc]; exact (by exact HLp), by rw [beside_yes h2_, List.length_append, ← hn]; rfl, Nat.le_succ _, rfl, by rfl, rfl, rfl⟩
        · omega
        · exact LNp
        · exact LNp
      · try simp only [nrm] at h2_
        refine aw_skipB ?_
        refine thenA_n ?_
        refine aw_region ?_
        first | refine al_opd rfl rfl rfl ((ao_add rfl rfl).val (nw_i64 BDp BDp)) ?_ | refine al_opd rfl rfl rfl (ao_add rfl rfl) ?_
        refine al_opd rfl rfl rfl (ao_mv (v := .int _ _) rfl) ?_
        refine al_nilT ?_
        refine ⟨_, ?_, _, rfl, i + 1, n, pb, c, by omega, rfl, by exact SMp, by exact HLp, by exact HLp, ?_, ?_, by rw [beside_no (by simpa using h2_)]; exact (by exact HLp), by rw [beside_no (by simpa using h2_)]; exact hn, hc, rfl, by rfl, rfl, rfl⟩
        · omega
        · exact LNp
        · exact LNp
    · try simp only [nrm] at h1_
      refine aw_exit ?_
      refine thenA_x ?_
      refine thenA_x ?_
      refine blockA_hit ?_
      refine thenA_n ?_
      refine aw_seq ?_
      refine aw_region ?_
      refine al_opd rfl rfl rfl (ao_mv (v := .slice _ _ _) rfl) ?_
      refine al_opd rfl rfl rfl (ao_as (v := .slice _ _ _) rfl) ?_
      refine al_nilT ?_
      refine aw_ret ?_
      refine ends1 rfl (rv_tmp (v := .slice _ _ _) rfl) ?_
      obtain rfl : i = 4 := by omega
      subst hn
      exact ⟨hG, pb, by omega, hkb, fun ρ h => vr_sl h (by unfold beside; omega) (by unfold beside; omega)⟩

-- impl.BesideOf
theorem implBes1_c {r : Room} {s : Spot} {H : AHeap} (hw : wfRoom r) (hs : wfSpot s) (hr : okRoom r) (hcl : isCell r s) : ACd Tryd.prog 27 [.agg (roomC r).toArray, .agg #[.int .i8 s.x, .int .i8 s.y]] H (.tuple #[.slice (some ⟨H.next, 0, none⟩) (beside r s).length ((beside r s).length + 1), .int .i64 0]) (H.push (.cells (fl spot (beside r s)) 2)) := by
  refine ac_gcs (vrl_fl spot_plain _) (ac_body Tryd.func27 rfl Tryd.ntmps27 rfl ?_)
  refine aw_seq ?_
  refine aw_region ?_
  refine al_opd rfl rfl rfl (ao_boxa (by rfl)) ?_
  refine al_opd rfl rfl rfl (ao_boxa (by rfl)) ?_
  refine al_opd rfl rfl rfl (ao_as (v := .slice _ _ _) rfl) ?_
  refine al_opd rfl rfl rfl (ao_as (v := .int _ _) rfl) ?_
  refine al_nilT ?_
  refine aw_seq ?_
  refine aw_seq ?_
  refine aw_region ?_
  refine al_opd rfl rfl rfl (ao_loada Tryd.isAgg28 Tryd.sizeOf28 rfl (by exact HLp) (by rfl) (by exact RFp)) ?_
  refine al_opd rfl rfl rfl (ao_loada Tryd.isAgg48 Tryd.sizeOf48 rfl (by exact HLp) (by rfl) (by exact RFp)) ?_
  refine al_opd rfl rfl rfl (ao_lit1 (v := .agg _) Tryd.underlying37 Tryd.sizeOf48 Tryd.zeroValue48 (by rfl) (by rfl) rfl rfl (by rfl) (by exact RFp)) ?_
  refine al_opd rfl rfl rfl (ao_calld (cellCode_c (r := r) (l := [s]) (c := 0) hw (fun i x h => by match i with | 0 => (simp at h; subst h; exact hs) | i + 1 => (simp at h)) (Sl.full spot_len (by exact HLp) rfl rfl rfl) (by simp) (ask_cell (show askC r s true 0 from .inr (.inr ⟨hr, hcl, rfl, rfl⟩)))) Tryd.call55 rfl rfl) ?_
  refine al_opd rfl rfl rfl (ao_as (v := .int _ _) rfl) ?_
  refine al_nilT ?_
  refine aw_seq ?_
  refine aw_region ?_
  refine al_opd rfl rfl rfl (ao_mv (v := .int _ _) rfl) ?_
  refine al_opd rfl rfl rfl (ao_neq rfl rfl) ?_
  refine al_nilT ?_
  refine aw_cond rfl (fun h1_ => ?_) (fun h1_ => ?_)
  · try simp only [nrm] at h1_
    first | done | omega | (exfalso; revert h1_; simp; (first | done | omega))
  try simp only [nrm] at h1_
  refine aw_skipT ?_
  refine aw_seq ?_
  refine aw_region ?_
  refine al_opd rfl rfl rfl (ao_loada Tryd.isAgg28 Tryd.sizeOf28 rfl (by exact HLp) (by rfl) (by exact RFp)) ?_
  refine al_opd rfl rfl rfl (ao_loada Tryd.isAgg48 Tryd.sizeOf48 rfl (by exact HLp) (by rfl) (by exact RFp)) ?_
  refine al_opd rfl rfl rfl (ao_calld (implBeside_c (r := r) (s := s) hw hs) Tryd.call60 rfl rfl) ?_
  refine al_opd rfl rfl rfl (ao_as (v := .slice _ _ _) rfl) ?_
  refine al_opd rfl rfl rfl (ao_as (v := .int _ _) rfl) ?_
  refine al_nilT ?_
  refine aw_ret ?_
  refine ends2 rfl (rv_tmp (v := .slice _ _ _) rfl) (rv_tmp (v := .int _ _) rfl) ?_
  exact ⟨by exact SMp, _, by exact LEp, by exact HLp, fun ρ h => vr_tup2 (vr_sl h (by omega) (by omega)) (.int _ _)⟩

end Go.Proofs.YtmmmjdbknepjgaaDoor
