/- Contracts of the program's functions over abstract heaps. -/
import Derived.Test.YtmafkbminigbcaaRm
import Derived.Test.YtmafkbminigbcaaVr
import Derived.Test.YtmafkbminigbcaaFn
namespace Go.Proofs.Ytmafkbminigbcaa
open Go Go.AW Go.Proofs
set_option linter.unusedVariables false
set_option linter.unusedSimpArgs false
set_option maxRecDepth 100000
set_option maxHeartbeats 2000000

-- spec.l01Beside
theorem l01Beside_c {r : Room} {s : Spot} {pb0 : Nat} {H : AHeap} (hp0 : H.blk pb0 = some (.cells (roomC r) 1)) (hr : okRoom r) (hw : wfRoom r) (hs : wfSpot s) : ACd Try.prog 63 [.pointer (some ⟨pb0, 0, none⟩), .agg #[.int .i8 s.x, .int .i8 s.y]] H (.slice (some ⟨H.next, 0, none⟩) (beside r s).length ((beside r s).length + 1)) (H.push (.cells (fl spot (beside r s)) 2)) := by
  have hltp := AHeap.lt hp0
  refine ac_gcs (vrl_fl spot_plain _) (ac_body Try.func63 rfl Try.ntmps63 rfl ?_)
  refine aw_seq ?_
  refine aw_region ?_
  refine al_opd rfl rfl rfl (ao_boxa (by rfl)) ?_
  refine al_opd rfl rfl rfl (ao_as (v := .slice _ _ _) rfl) ?_
  refine al_nilT ?_
  refine aw_seq ?_
  refine aw_region ?_
  refine al_opd rfl rfl rfl (ao_lit0 Try.underlying35 Try.sizeOf31 Try.zeroValue31 (by rfl) (by rfl) rfl) ?_
  refine al_opd rfl rfl rfl (ao_as (v := .slice _ _ _) rfl) ?_
  refine al_nilT ?_
  refine aw_seq ?_
  refine aw_seq ?_
  refine aw_region ?_
  refine al_opd rfl rfl rfl (ao_as (v := .int _ _) rfl) ?_
  refine al_nilT ?_
  refine aw_block ?_
  refine aw_loop (fun (gk : Nat) (fr : AFr) (G : AHeap) => ∃ get : Nat → Value, fr = ⟨24, get⟩ ∧ (∃ (i n pb c : Nat), i ≤ 4 ∧ gk = 4 - i ∧ Same H.next H G ∧ G.blk H.next = some (.cells [.int .i8 s.x, .int .i8 s.y] 1) ∧ H.next + 1 ≤ pb ∧ pb < G.next ∧ G.blk pb = some (.cells (fl spot (besideTo r s i)) 2) ∧ n = (besideTo r s i).length ∧ n ≤ c ∧ get 5 = .slice (some ⟨pb, 0, none⟩) n c ∧ get 6 = .int .i64 i ∧ get 0 = .pointer (some ⟨pb0, 0, none⟩) ∧ get 3 = .pointer (some ⟨H.next, 0, none⟩))) (4) ⟨_, rfl, ?_⟩ ?_
  · refine ⟨0, 0, _, _, by omega, rfl, by exact SMp, by exact HLp, ?_, ?_, by exact HLp, rfl, Nat.le_refl _, rfl, rfl, rfl, rfl⟩ <;> exact LNp
  · rintro gk fr G ⟨get, rfl, i, n, pb, c, hi, rfl, hG, hb0, hpb, hlt, hkb, hn, hc, g5, gi, k0, k1⟩
    have hlen := beside_len r s i
    have hp : G.blk pb0 = some (.cells (roomC r) 1) := (hG _ hltp).trans hp0
    refine aw_slot (d := 5) (v := .slice (some ⟨pb, 0, none⟩) n c) (by first | assumption | rfl) ?_
    refine aw_slot (d := 6) (v := .int .i64 i) (by first | assumption | rfl) ?_
    refine aw_slot (d := 0) (v := .pointer (some ⟨pb0, 0, none⟩)) (by first | assumption | rfl) ?_
    refine aw_slot (d := 3) (v := .pointer (some ⟨H.next, 0, none⟩)) (by first | assumption | rfl) ?_
    refine aw_seq ?_
    refine aw_seq ?_
    refine aw_region ?_
    refine al_opd rfl rfl rfl (ao_mv (v := .int _ _) rfl) ?_
    refine al_opd rfl rfl rfl (ao_lss rfl rfl) ?_
    refine al_nilT ?_
    refine aw_cond rfl (fun h1_ => ?_) (fun h1_ => ?_)
    · try simp only [nrm] at h1_
      refine aw_skipT ?_
      refine aw_seq ?_
      refine aw_block ?_
      refine aw_seq ?_
      refine aw_region ?_
      refine al_opd rfl rfl rfl (ao_loada Try.isAgg31 Try.sizeOf31 rfl (by exact HLp) (by rfl) (by exact RFp)) ?_
      refine al_opd rfl rfl rfl (ao_mv (v := .int _ _) rfl) ?_
      refine al_opd rfl rfl rfl (ao_calld (l01Next_c (s := s) (k := (i : Nat))) Try.call52 rfl rfl) ?_
      refine al_opd rfl rfl rfl (ao_alloca (zv31) (by rfl)) ?_
      first | refine al_opd rfl rfl rfl ((ao_storeL Try.sizeOf31 (by rfl) (by rfl) (by exact HLp) (by exact RFp) (by exact RFp) (by exact RFp)).to (SetR.eq (by exact SRp))) ?_ | refine al_opd rfl rfl rfl ((ao_storeP (ds := [.int _ _, .int _ _]) Try.sizeOf31 (by rfl) (by rfl) (by exact HLp) (by exact RFp) (by exact RFp) (by exact LTp)).to (SetR.eq (by exact SRp))) ?_
      refine al_nilT ?_
      refine aw_seq ?_
      refine aw_region ?_
      refine al_opd rfl rfl rfl (ao_mv (v := .pointer _) rfl) ?_
      refine al_opd rfl rfl rfl (ao_loada Try.isAgg31 Try.sizeOf31 rfl (by exact HLp) (by rfl) (by exact RFp)) ?_
      refine al_opd rfl rfl rfl (ao_calld (l01Free_c (r := r) (s := nextSpot s (i : Nat)) (b := freeB r (nextSpot s (i : Nat))) (by exact HLp) hr hw (wf_next hs _) (freeB_iff _ _)) Try.call44 rfl rfl) ?_
      refine al_nilT ?_
      refine aw_cond rfl (fun h2_ => ?_) (fun h2_ => ?_)
      · try simp only [nrm] at h2_
        refine aw_region ?_
        refine al_opd rfl rfl rfl (ao_mv (v := .slice _ _ _) rfl) ?_
        refine al_opd rfl rfl rfl (ao_loada Try.isAgg31 Try.sizeOf31 rfl (by exact HLp) (by rfl) (by exact RFp)) ?_
        refine al_opd rfl rfl rfl (ao_lit1 (v := .agg _) Try.underlying35 Try.sizeOf31 Try.zeroValue31 (by rfl) (by rfl) rfl rfl (by rfl) (by exact RFp)) ?_
        refine al_opd rfl rfl rfl (ao_appC Try.underlying35 ⟨_, Try.underlying35⟩ elem31 (by rfl) (by rfl) (by exact HLp) (by (rw [fl_len spot_len, ← hn]; omega)) (by exact SCp) (by first | rfl | simp [isOne]) (by exact BDp) (by exact BDp)) ?_
        refine al_opd rfl rfl rfl (ao_as (v := .slice _ _ _) rfl) ?_
        refine al_nilB ?_
        refine thenA_n ?_
        refine aw_region ?_
        refine al_opd rfl rfl rfl (ao_mv (v := .int _ _) rfl) ?_
        first | refine al_opd rfl rfl rfl ((ao_add rfl rfl).val (nw_i64 BDp BDp)) ?_ | refine al_opd rfl rfl rfl (ao_add rfl rfl) ?_
        refine al_opd rfl rfl rfl (ao_as (v := .int _ _) rfl) ?_
        refine al_nilT ?_
        refine ⟨_, ?_, _, rfl, i + 1, n + 1, _, _, by omega, rfl, by exact SMp, by exact HLp, ?_, ?_, by rw [beside_yes h2_, fl_snoc]; exact (by exact HLp), by rw [beside_yes h2_, List.length_append, ← hn]; rfl, Nat.le_succ _, rfl, by rfl, rfl, rfl⟩
        · omega
        · exact LNp
        · exact LNp
      · try simp only [nrm] at h2_
        refine aw_skipB ?_
        refine thenA_n ?_
        refine aw_region ?_
        refine al_opd rfl rfl rfl (ao_mv (v := .int _ _) rfl) ?_
        first | refine al_opd rfl rfl rfl ((ao_add rfl rfl).val (nw_i64 BDp BDp)) ?_ | refine al_opd rfl rfl rfl (ao_add rfl rfl) ?_
        refine al_opd rfl rfl rfl (ao_as (v := .int _ _) rfl) ?_
        refine al_nilT ?_
        refine ⟨_, ?_, _, rfl, i + 1, n, pb, c, by omega, rfl, by exact SMp, by exact HLp, ?_, ?_, by rw [beside_no (by simpa using h2_)]; exact (by exact HLp), by rw [beside_no (by simpa using h2_)]; exact hn, hc, rfl, by rfl, rfl, rfl⟩
        · omega
        · exact LNp
        · exact LNp
    · try simp only [nrm] at h1_
      refine aw_exit ?_
      refine thenA_x ?_
      refine thenA_x ?_
      refine blockA_hit ?_
      refine thenA_n ?_
      refine aw_seq ?_
      refine aw_region ?_
      refine al_opd rfl rfl rfl (ao_mv (v := .slice _ _ _) rfl) ?_
      refine al_opd rfl rfl rfl (ao_as (v := .slice _ _ _) rfl) ?_
      refine al_nilT ?_
      refine aw_ret ?_
      refine ends1 rfl (rv_tmp (v := .slice _ _ _) rfl) ?_
      obtain rfl : i = 4 := by omega
      subst hn
      exact ⟨hG, pb, by omega, hkb, fun ρ h => vr_sl h (by unfold beside; omega) (by unfold beside; omega)⟩

-- (impl.Room).beside
theorem implBeside_c {r : Room} {s : Spot} {H : AHeap} (hw : wfRoom r) (hs : wfSpot s) : ACd Try.prog 34 [.agg (roomC r).toArray, .agg #[.int .i8 s.x, .int .i8 s.y]] H (.slice (some ⟨H.next, 0, none⟩) (beside r s).length ((beside r s).length + 1)) (H.push (.cells (fl spot (beside r s)) 2)) := by
  refine ac_gcs (vrl_fl spot_plain _) (ac_body Try.func34 rfl Try.ntmps34 rfl ?_)
  refine aw_seq ?_
  refine aw_region ?_
  refine al_opd rfl rfl rfl (ao_boxa (by rfl)) ?_
  refine al_opd rfl rfl rfl (ao_boxa (by rfl)) ?_
  refine al_opd rfl rfl rfl (ao_as (v := .slice _ _ _) rfl) ?_
  refine al_nilT ?_
  refine aw_seq ?_
  refine aw_region ?_
  refine al_opd rfl rfl rfl (ao_lit0 Try.underlying35 Try.sizeOf31 Try.zeroValue31 (by rfl) (by rfl) rfl) ?_
  refine al_opd rfl rfl rfl (ao_as (v := .slice _ _ _) rfl) ?_
  refine al_nilT ?_
  refine aw_seq ?_
  refine aw_seq ?_
  refine aw_region ?_
  refine al_opd rfl rfl rfl (ao_mv (v := .int _ _) rfl) ?_
  refine al_nilT ?_
  refine aw_block ?_
  refine aw_loop (fun (gk : Nat) (fr : AFr) (G : AHeap) => ∃ get : Nat → Value, fr = ⟨24, get⟩ ∧ (∃ (i n pb c : Nat), i ≤ 4 ∧ gk = 4 - i ∧ Same H.next H G ∧ G.blk H.next = some (.cells (roomC r) 1) ∧ G.blk (H.next + 1) = some (.cells [.int .i8 s.x, .int .i8 s.y] 1) ∧ H.next + 2 ≤ pb ∧ pb < G.next ∧ G.blk pb = some (.cells (fl spot (besideTo r s i)) 2) ∧ n = (besideTo r s i).length ∧ n ≤ c ∧ get 5 = .slice (some ⟨pb, 0, none⟩) n c ∧ get 9 = .int .i64 i ∧ get 2 = .pointer (some ⟨H.next, 0, none⟩) ∧ get 3 = .pointer (some ⟨H.next + 1, 0, none⟩))) (4) ⟨_, rfl, ?_⟩ ?_
  · refine ⟨0, 0, _, _, by omega, rfl, by exact SMp, by exact HLp, by exact HLp, ?_, ?_, by exact HLp, rfl, Nat.le_refl _, rfl, rfl, rfl, rfl⟩ <;> exact LNp
  · rintro gk fr G ⟨get, rfl, i, n, pb, c, hi, rfl, hG, hb0, hb1, hpb, hlt, hkb, hn, hc, g5, gi, k0, k1⟩
    have hlen := beside_len r s i
    refine aw_slot (d := 5) (v := .slice (some ⟨pb, 0, none⟩) n c) (by first | assumption | rfl) ?_
    refine aw_slot (d := 9) (v := .int .i64 i) (by first | assumption | rfl) ?_
    refine aw_slot (d := 2) (v := .pointer (some ⟨H.next, 0, none⟩)) (by first | assumption | rfl) ?_
    refine aw_slot (d := 3) (v := .pointer (some ⟨H.next + 1, 0, none⟩)) (by first | assumption | rfl) ?_
    refine aw_seq ?_
    refine aw_region ?_
    refine al_opd rfl rfl rfl (ao_lss rfl rfl) ?_
    refine al_nilT ?_
    refine aw_seq ?_
    refine aw_cond rfl (fun h1_ => ?_) (fun h1_ => ?_)
    · try simp only [nrm] at h1_
      refine aw_skipT ?_
      refine aw_seq ?_
      refine aw_block ?_
      refine aw_seq ?_
      refine aw_region ?_
      refine al_opd rfl rfl rfl (ao_mv (v := .int _ _) rfl) ?_
      refine al_opd rfl rfl rfl (ao_as (v := .int _ _) rfl) ?_
      refine al_nilT ?_
      refine aw_seq ?_
      refine aw_region ?_
      refine al_opd rfl rfl rfl (ao_loada Try.isAgg31 Try.sizeOf31 rfl (by exact HLp) (by rfl) (by exact RFp)) ?_
      refine al_opd rfl rfl rfl (ao_mv (v := .int _ _) rfl) ?_
      refine al_opd rfl rfl rfl (ao_calld (implNext_c (s := s) (k := (i : Nat))) Try.call65 rfl rfl) ?_
      refine al_opd rfl rfl rfl (ao_alloca (zv31) (by rfl)) ?_
      first | refine al_opd rfl rfl rfl ((ao_storeL Try.sizeOf31 (by rfl) (by rfl) (by exact HLp) (by exact RFp) (by exact RFp) (by exact RFp)).to (SetR.eq (by exact SRp))) ?_ | refine al_opd rfl rfl rfl ((ao_storeP (ds := [.int _ _, .int _ _]) Try.sizeOf31 (by rfl) (by rfl) (by exact HLp) (by exact RFp) (by exact RFp) (by exact LTp)).to (SetR.eq (by exact SRp))) ?_
      refine al_nilT ?_
      refine aw_seq ?_
      refine aw_region ?_
      refine al_opd rfl rfl rfl (ao_loada Try.isAgg28 Try.sizeOf28 rfl (by exact HLp) (by rfl) (by exact RFp)) ?_
      refine al_opd rfl rfl rfl (ao_loada Try.isAgg31 Try.sizeOf31 rfl (by exact HLp) (by rfl) (by exact RFp)) ?_
      refine al_opd rfl rfl rfl (ao_calld (isFree_c (r := r) (s := nextSpot s (i : Nat)) (b := freeB r (nextSpot s (i : Nat))) hw (wf_next hs _) (freeB_iff _ _)) Try.call61 rfl rfl) ?_
      refine al_nilT ?_
      refine aw_cond rfl (fun h2_ => ?_) (fun h2_ => ?_)
      · try simp only [nrm] at h2_
        refine aw_region ?_
        refine al_opd rfl rfl rfl (ao_mv (v := .slice _ _ _) rfl) ?_
        refine al_opd rfl rfl rfl (ao_loada Try.isAgg31 Try.sizeOf31 rfl (by exact HLp) (by rfl) (by exact RFp)) ?_
        refine al_opd rfl rfl rfl (ao_lit1 (v := .agg _) Try.underlying35 Try.sizeOf31 Try.zeroValue31 (by rfl) (by rfl) rfl rfl (by rfl) (by exact RFp)) ?_
        refine al_opd rfl rfl rfl (ao_appC Try.underlying35 ⟨_, Try.underlying35⟩ elem31 (by rfl) (by rfl) (by exact HLp) (by (rw [fl_len spot_len, ← hn]; omega)) (by exact SCp) (by first | rfl | simp [isOne]) (by exact BDp) (by exact BDp)) ?_
        refine al_opd rfl rfl rfl (ao_as (v := .slice _ _ _) rfl) ?_
        refine al_nilB ?_
        refine thenA_n ?_
        refine aw_region ?_
        first | refine al_opd rfl rfl rfl ((ao_add rfl rfl).val (nw_i64 BDp BDp)) ?_ | refine al_opd rfl rfl rfl (ao_add rfl rfl) ?_
        refine al_opd rfl rfl rfl (ao_mv (v := .int _ _) rfl) ?_
        refine al_nilT ?_
        refine ⟨_, ?_, _, rfl, i + 1, n + 1, _, _, by omega, rfl, by exact SMp, by exact HLp, by exact HLp, ?_, ?_, by rw [beside_yes h2_, fl_snoc]; exact (by exact HLp), by rw [beside_yes h2_, List.length_append, ← hn]; rfl, Nat.le_succ _, rfl, by rfl, rfl, rfl⟩
        · omega
        · exact LNp
        · exact LNp
      · try simp only [nrm] at h2_
        refine aw_skipB ?_
        refine thenA_n ?_
        refine aw_region ?_
        first | refine al_opd rfl rfl rfl ((ao_add rfl rfl).val (nw_i64 BDp BDp)) ?_ | refine al_opd rfl rfl rfl (ao_add rfl rfl) ?_
        refine al_opd rfl rfl rfl (ao_mv (v := .int _ _) rfl) ?_
        refine al_nilT ?_
        refine ⟨_, ?_, _, rfl, i + 1, n, pb, c, by omega, rfl, by exact SMp, by exact HLp, by exact HLp, ?_, ?_, by rw [beside_no (by simpa using h2_)]; exact (by exact HLp), by rw [beside_no (by simpa using h2_)]; exact hn, hc, rfl, by rfl, rfl, rfl⟩
        · omega
        · exact LNp
        · exact LNp
    · try simp only [nrm] at h1_
      refine aw_exit ?_
      refine thenA_x ?_
      refine thenA_x ?_
      refine blockA_hit ?_
      refine thenA_n ?_
      refine aw_seq ?_
      refine aw_region ?_
      refine al_opd rfl rfl rfl (ao_mv (v := .slice _ _ _) rfl) ?_
      refine al_opd rfl rfl rfl (ao_as (v := .slice _ _ _) rfl) ?_
      refine al_nilT ?_
      refine aw_ret ?_
      refine ends1 rfl (rv_tmp (v := .slice _ _ _) rfl) ?_
      obtain rfl : i = 4 := by omega
      subst hn
      exact ⟨hG, pb, by omega, hkb, fun ρ h => vr_sl h (by unfold beside; omega) (by unfold beside; omega)⟩

-- (impl.Room).ray
theorem implRay_c {r : Room} {s : Spot} {k : Int} {n : Nat} {H : AHeap} (hw : wfRoom r) (hs : wfSpot s) (hn : rayIs r s k n) (h11 : n ≤ 11) : ACd Try.prog 50 [.agg (roomC r).toArray, .agg #[.int .i8 s.x, .int .i8 s.y], .int .i64 k] H (.int .i64 n) (H) := by
  refine ac_gc0 (fun β => VR.plainT β (by first | rfl | simp [plainT, plainV, plain1])) (ac_body Try.func50 rfl Try.ntmps50 rfl ?_)
  refine aw_seq ?_
  refine aw_region ?_
  refine al_opd rfl rfl rfl (ao_boxa (by rfl)) ?_
  refine al_opd rfl rfl rfl (ao_boxa (by rfl)) ?_
  refine al_opd rfl rfl rfl (ao_as (v := .int _ _) rfl) ?_
  refine al_nilT ?_
  refine aw_seq ?_
  refine aw_region ?_
  refine al_opd rfl rfl rfl (ao_as (v := .int _ _) rfl) ?_
  refine al_nilT ?_
  refine aw_seq ?_
  refine aw_seq ?_
  refine aw_region ?_
  refine al_opd rfl rfl rfl (ao_loada Try.isAgg31 Try.sizeOf31 rfl (by exact HLp) (by rfl) (by exact RFp)) ?_
  refine al_opd rfl rfl rfl (ao_mv (v := .int _ _) rfl) ?_
  refine al_opd rfl rfl rfl (ao_calld (implNext_c (s := s) (k := k)) Try.call65 rfl rfl) ?_
  refine al_opd rfl rfl rfl (ao_alloca (zv31) (by rfl)) ?_
  first | refine al_opd rfl rfl rfl ((ao_storeL Try.sizeOf31 (by rfl) (by rfl) (by exact HLp) (by exact RFp) (by exact RFp) (by exact RFp)).to (SetR.eq (by exact SRp))) ?_ | refine al_opd rfl rfl rfl ((ao_storeP (ds := [.int _ _, .int _ _]) Try.sizeOf31 (by rfl) (by rfl) (by exact HLp) (by exact RFp) (by exact RFp) (by exact LTp)).to (SetR.eq (by exact SRp))) ?_
  refine al_nilT ?_
  refine aw_block ?_
  refine aw_loop (fun (gk : Nat) (fr : AFr) (G : AHeap) => ∃ get : Nat → Value, fr = ⟨22, get⟩ ∧ (∃ (i qb : Nat), i ≤ n ∧ gk = n - i ∧ Same H.next H G ∧ G.blk H.next = some (.cells (roomC r) 1) ∧ H.next + 2 ≤ qb ∧ qb < G.next ∧ G.blk qb = some (.cells [.int .i8 (stepS s k (i + 1)).x, .int .i8 (stepS s k (i + 1)).y] 1) ∧ get 2 = .int .i64 k ∧ get 3 = .pointer (some ⟨H.next, 0, none⟩) ∧ get 7 = .int .i64 i ∧ get 8 = .pointer (some ⟨qb, 0, none⟩))) (n) ⟨_, rfl, ?_⟩ ?_
  · refine ⟨0, _, Nat.zero_le _, rfl, by exact SMp, by exact HLp, ?_, ?_, by exact HLp, rfl, rfl, rfl, rfl⟩ <;> exact LNp
  · rintro gk fr G ⟨get, rfl, i, qb, hi, rfl, hG, hb0, hqb, hlt, hkb, g2, g3, g7, g8⟩
    refine aw_slot (d := 2) (v := .int .i64 k) (by first | assumption | rfl) ?_
    refine aw_slot (d := 3) (v := .pointer (some ⟨H.next, 0, none⟩)) (by first | assumption | rfl) ?_
    refine aw_slot (d := 7) (v := .int .i64 i) (by first | assumption | rfl) ?_
    refine aw_slot (d := 8) (v := .pointer (some ⟨qb, 0, none⟩)) (by first | assumption | rfl) ?_
    refine aw_seq ?_
    refine aw_seq ?_
    refine aw_region ?_
    refine al_opd rfl rfl rfl (ao_loada Try.isAgg28 Try.sizeOf28 rfl (by exact HLp) (by rfl) (by exact RFp)) ?_
    refine al_opd rfl rfl rfl (ao_loada Try.isAgg31 Try.sizeOf31 rfl (by exact HLp) (by rfl) (by exact RFp)) ?_
    refine al_opd rfl rfl rfl (ao_calld (isFree_c (r := r) (s := nextSpot (stepS s k i) k) (b := freeB r (nextSpot (stepS s k i) k)) hw (wf_next (wf_step hs k _) _) (freeB_iff _ _)) Try.call61 rfl rfl) ?_
    refine al_nilT ?_
    refine aw_cond rfl (fun h1_ => ?_) (fun h1_ => ?_)
    · try simp only [nrm] at h1_
      have hin : i < n := ray_lt hn hi h1_
      refine aw_skipT ?_
      refine aw_seq ?_
      refine aw_block ?_
      refine aw_region ?_
      refine al_opd rfl rfl rfl (ao_mv (v := .int _ _) rfl) ?_
      first | refine al_opd rfl rfl rfl ((ao_add rfl rfl).val (nw_i64 BDp BDp)) ?_ | refine al_opd rfl rfl rfl (ao_add rfl rfl) ?_
      refine al_opd rfl rfl rfl (ao_as (v := .int _ _) rfl) ?_
      refine al_nilB ?_
      refine thenA_n ?_
      refine aw_seq ?_
      refine aw_seq ?_
      refine aw_region ?_
      refine al_opd rfl rfl rfl (ao_loada Try.isAgg31 Try.sizeOf31 rfl (by exact HLp) (by rfl) (by exact RFp)) ?_
      refine al_nilT ?_
      refine aw_region ?_
      refine al_opd rfl rfl rfl (ao_alloca (zv31) (by rfl)) ?_
      first | refine al_opd rfl rfl rfl ((ao_storeL Try.sizeOf31 (by rfl) (by rfl) (by exact HLp) (by exact RFp) (by exact RFp) (by exact RFp)).to (SetR.eq (by exact SRp))) ?_ | refine al_opd rfl rfl rfl ((ao_storeP (ds := [.int _ _, .int _ _]) Try.sizeOf31 (by rfl) (by rfl) (by exact HLp) (by exact RFp) (by exact RFp) (by exact LTp)).to (SetR.eq (by exact SRp))) ?_
      refine al_nilT ?_
      refine aw_region ?_
      refine al_opd rfl rfl rfl (ao_loada Try.isAgg31 Try.sizeOf31 rfl (by exact HLp) (by rfl) (by exact RFp)) ?_
      refine al_opd rfl rfl rfl (ao_mv (v := .int _ _) rfl) ?_
      refine al_opd rfl rfl rfl (ao_calld (implNext_c (s := stepS s k (i + 1)) (k := k)) Try.call65 rfl rfl) ?_
      first | refine al_opd rfl rfl rfl ((ao_storeL Try.sizeOf31 (by rfl) (by rfl) (by exact HLp) (by exact RFp) (by exact RFp) (by exact RFp)).to (SetR.eq (by exact SRp))) ?_ | refine al_opd rfl rfl rfl ((ao_storeP (ds := [.int _ _, .int _ _]) Try.sizeOf31 (by rfl) (by rfl) (by exact HLp) (by exact RFp) (by exact RFp) (by exact LTp)).to (SetR.eq (by exact SRp))) ?_
      refine al_nilT ?_
      refine ⟨_, ?_, _, rfl, i + 1, _, by omega, rfl, by exact SMp, by exact HLp, ?_, ?_, by exact HLp, rfl, rfl, by rfl, rfl⟩
      · omega
      · exact LNp
      · exact LNp
    · try simp only [nrm] at h1_
      have hin : ¬ i < n := ray_ge hn (by simpa using h1_)
      refine aw_exit ?_
      refine thenA_x ?_
      refine thenA_x ?_
      refine blockA_hit ?_
      refine thenA_n ?_
      refine aw_seq ?_
      refine aw_region ?_
      refine al_opd rfl rfl rfl (ao_mv (v := .int _ _) rfl) ?_
      refine al_opd rfl rfl rfl (ao_as (v := .int _ _) rfl) ?_
      refine al_nilT ?_
      refine aw_ret ?_
      refine ends1 rfl (rv_tmp (v := .int _ _) rfl) ?_
      obtain rfl : i = n := by omega
      exact ⟨rfl, by exact SMp⟩

-- impl.isSide
theorem isSide_c {k : Int} {H : AHeap} : ACd Try.prog 51 [.int .i64 k] H (.bool (decide (0 ≤ k) && decide (k ≤ 3))) (H) := by
  refine ac_gc0 (fun β => VR.plainT β (by first | rfl | simp [plainT, plainV, plain1])) (ac_body Try.func51 rfl Try.ntmps51 rfl ?_)
  refine aw_seq ?_
  refine aw_region ?_
  refine al_opd rfl rfl rfl (ao_as (v := .bool _) rfl) ?_
  refine al_nilT ?_
  refine aw_seq ?_
  refine aw_region ?_
  refine al_opd rfl rfl rfl (ao_mv (v := .int _ _) rfl) ?_
  refine al_opd rfl rfl rfl (ao_calld (within_c) Try.call47 rfl rfl) ?_
  refine al_opd rfl rfl rfl (ao_as (v := .bool _) rfl) ?_
  refine al_nilT ?_
  refine aw_ret ?_
  refine ends1 rfl (rv_tmp (v := .bool _) rfl) ?_
  exact ⟨by first | rfl | (simp [*]; (first | done | fail)), by exact SMp⟩

-- impl.RayFrom
theorem implRay1_c {r : Room} {s : Spot} {k : Int} {n : Nat} {H : AHeap} (hw : wfRoom r) (hs : wfSpot s) (hn : rayIs r s k n) (h11 : n ≤ 11) (hst : stoodC r s (decide (0 ≤ k) && decide (k ≤ 3)) 0) : ACd Try.prog 21 [.agg (roomC r).toArray, .agg #[.int .i8 s.x, .int .i8 s.y], .int .i64 k] H (.tuple #[.int .i64 n, .int .i64 0]) (H) := by
  have ⟨hr, hcl, hf, hfr⟩ := stood_ok hst
  obtain ⟨c1, hc1⟩ := exists_cellC r [s]
  obtain ⟨c3, hc3⟩ := exists_stateC r [s]
  refine ac_gc0 (fun β => VR.plainT β (by first | rfl | simp [plainT, plainV, plain1])) (ac_body Try.func21 rfl Try.ntmps21 rfl ?_)
  refine aw_seq ?_
  refine aw_region ?_
  refine al_opd rfl rfl rfl (ao_boxa (by rfl)) ?_
  refine al_opd rfl rfl rfl (ao_boxa (by rfl)) ?_
  refine al_opd rfl rfl rfl (ao_as (v := .int _ _) rfl) ?_
  refine al_opd rfl rfl rfl (ao_as (v := .int _ _) rfl) ?_
  refine al_nilT ?_
  refine aw_seq ?_
  refine aw_seq ?_
  refine aw_draw (m := 14) mo (by kernel_rfl) rfl (fun _ _ _ h => h) ?_
  refine dw_opd rfl rfl rfl (ao_loada Try.isAgg28 Try.sizeOf28 rfl (by exact HLp) (by rfl) (by exact RFp)) ?_
  refine dw_opd rfl rfl rfl (ao_loada Try.isAgg31 Try.sizeOf31 rfl (by exact HLp) (by rfl) (by exact RFp)) ?_
  refine dw_opn rfl rfl rfl (ao_lit1 (v := .agg _) Try.underlying35 Try.sizeOf31 Try.zeroValue31 (by rfl) (by rfl) rfl rfl (by rfl) (by exact RFp)) ?_
  refine dw_opd rfl rfl rfl (ao_calld (cellCode_c (r := r) (l := [s]) (c := c1) hw (fun i x h => by match i with | 0 => (simp at h; subst h; exact hs) | i + 1 => (simp at h)) (Sl.full spot_len (by exact HLp) rfl rfl rfl) (by simp) hc1) Try.call28 rfl rfl) ?_
  refine dw_opd rfl rfl rfl (ao_mv (v := .int _ _) rfl) ?_
  refine dw_opd rfl rfl rfl (ao_calld (isSide_c) Try.call51 rfl rfl) ?_
  refine dw_opd rfl rfl rfl (ao_calld (unless_c (b := (decide (0 ≤ k) && decide (k ≤ 3))) (c := 2)) Try.call46 rfl rfl) ?_
  refine dw_opd rfl rfl rfl (ao_loada Try.isAgg28 Try.sizeOf28 rfl (by exact HLp) (by rfl) (by exact RFp)) ?_
  refine dw_opd rfl rfl rfl (ao_loada Try.isAgg31 Try.sizeOf31 rfl (by exact HLp) (by rfl) (by exact RFp)) ?_
  refine dw_opn rfl rfl rfl (ao_lit1 (v := .agg _) Try.underlying35 Try.sizeOf31 Try.zeroValue31 (by rfl) (by rfl) rfl rfl (by rfl) (by exact RFp)) ?_
  refine dw_opd rfl rfl rfl (ao_calld (stateCode_c (r := r) (l := [s]) (c := c3) hw (fun i x h => by match i with | 0 => (simp at h; subst h; exact hs) | i + 1 => (simp at h)) (Sl.full spot_len (by exact HLp) rfl rfl rfl) (by simp) hc3) Try.call29 rfl rfl) ?_
  refine dw_opn rfl rfl rfl (ao_buildSlice (A := #[.int .i64 c1, .int .i64 (if (decide (0 ≤ k) && decide (k ≤ 3)) = true then 0 else 2), .int .i64 c3]) Try.underlying87 Try.sizeOf2 Try.zeroValue2 (by rfl) (by rfl) (by decide) (by decide) (by rfl) (by first | rfl | kernel_rfl)) ?_
  refine dw_opd rfl rfl rfl (ao_calld (ACd.val (firstOf_c (l := [c1, if (decide (0 ≤ k) && decide (k ≤ 3)) = true then 0 else 2, c3]) (Sl.full i64_len (by exact HLp) rfl rfl rfl) (by simp)) (congrArg (Value.int .i64) (stood_first hst hc1 rfl hc3))) Try.call27 rfl rfl) ?_
  refine dw_opd rfl rfl rfl (ao_as (v := .int _ _) rfl) ?_
  refine dw_end ?_
  refine al_nilT ?_
  refine aw_seq ?_
  refine aw_region ?_
  refine al_opd rfl rfl rfl (ao_mv (v := .int _ _) rfl) ?_
  refine al_opd rfl rfl rfl (ao_neq rfl rfl) ?_
  refine al_nilT ?_
  refine aw_cond rfl (fun h1_ => ?_) (fun h1_ => ?_)
  · try simp only [nrm] at h1_
    first | done | omega | (exfalso; revert h1_; simp; (first | done | omega))
  try simp only [nrm] at h1_
  refine aw_skipT ?_
  refine aw_seq ?_
  refine aw_region ?_
  refine al_opd rfl rfl rfl (ao_loada Try.isAgg28 Try.sizeOf28 rfl (by exact HLp) (by rfl) (by exact RFp)) ?_
  refine al_opd rfl rfl rfl (ao_loada Try.isAgg31 Try.sizeOf31 rfl (by exact HLp) (by rfl) (by exact RFp)) ?_
  refine al_opd rfl rfl rfl (ao_mv (v := .int _ _) rfl) ?_
  refine al_opd rfl rfl rfl (ao_calld (implRay_c (r := r) (s := s) (k := k) (n := n) hw hs hn h11) Try.call50 rfl rfl) ?_
  refine al_opd rfl rfl rfl (ao_as (v := .int _ _) rfl) ?_
  refine al_opd rfl rfl rfl (ao_as (v := .int _ _) rfl) ?_
  refine al_nilT ?_
  refine aw_ret ?_
  refine ends2 rfl (rv_tmp (v := .int _ _) rfl) (rv_tmp (v := .int _ _) rfl) ?_
  exact ⟨by first | rfl | (simp [*]; (first | done | fail)), by exact SMp⟩

-- impl.RaysFrom
theorem implRays1_c {r : Room} {s : Spot} {g : Nat → Nat} {H : AHeap} (hw : wfRoom r) (hs : wfSpot s) (hg : ∀ i : Nat, i < 4 → rayIs r s (i : Int) (g i) ∧ g i ≤ 11) (hst : stoodC r s true 0) : ACd Try.prog 20 [.agg (roomC r).toArray, .agg #[.int .i8 s.x, .int .i8 s.y]] H (.tuple #[.agg (four (fun i => ((g i : Nat) : Int))).toArray, .int .i64 0]) (H) := by
  have ⟨hr, hcl, hf, hfr⟩ := stood_ok hst
  obtain ⟨c1, hc1⟩ := exists_cellC r [s]
  obtain ⟨c3, hc3⟩ := exists_stateC r [s]
  refine ac_gc0 (fun β => VR.plainT β (by first | rfl | simp [plainT, plainV, plain1])) (ac_body Try.func20 rfl Try.ntmps20 rfl ?_)
  refine aw_seq ?_
  refine aw_region ?_
  refine al_opd rfl rfl rfl (ao_boxa (by rfl)) ?_
  refine al_opd rfl rfl rfl (ao_boxa (by rfl)) ?_
  refine al_opd rfl rfl rfl (ao_alloca (zv46) (by rfl)) ?_
  refine al_opd rfl rfl rfl (ao_as (v := .int _ _) rfl) ?_
  refine al_nilT ?_
  refine aw_seq ?_
  refine aw_region ?_
  refine al_opd rfl rfl rfl (ao_build (A := (four (fun _ => 0)).toArray) Try.zeroValue46 (by rfl) (by first | rfl | kernel_rfl) (by rfl) (by first | rfl | kernel_rfl)) ?_
  refine al_opd rfl rfl rfl (ao_alloca (zv46) (by rfl)) ?_
  first | refine al_opd rfl rfl rfl ((ao_storeL Try.sizeOf46 (by rfl) (by rfl) (by exact HLp) (by first | rfl | exact four_get _ _ (by omega) | (simp; (first | done | fail))) (by first | rfl | exact four_get _ _ (by omega) | (simp; (first | done | fail))) (by first | rfl | exact four_get _ _ (by omega) | (simp; (first | done | fail)))).to (SetR.eq (by exact SRp))) ?_ | refine al_opd rfl rfl rfl ((ao_storeP (ds := [.int _ _, .int _ _, .int _ _, .int _ _]) Try.sizeOf46 (by rfl) (by rfl) (by exact HLp) (by first | rfl | exact four_get _ _ (by omega) | (simp; (first | done | fail))) (by first | rfl | exact four_get _ _ (by omega) | (simp; (first | done | fail))) (by (show _ < 4; simp; omega))).to (SetR.eq (by exact SRp))) ?_
  refine al_nilT ?_
  refine aw_seq ?_
  refine aw_seq ?_
  refine aw_draw (m := 11) mo (by kernel_rfl) rfl (fun _ _ _ h => h) ?_
  refine dw_opd rfl rfl rfl (ao_loada Try.isAgg28 Try.sizeOf28 rfl (by exact HLp) (by rfl) (by first | rfl | exact four_get _ _ (by omega) | (simp; (first | done | fail)))) ?_
  refine dw_opd rfl rfl rfl (ao_loada Try.isAgg31 Try.sizeOf31 rfl (by exact HLp) (by rfl) (by first | rfl | exact four_get _ _ (by omega) | (simp; (first | done | fail)))) ?_
  refine dw_opn rfl rfl rfl (ao_lit1 (v := .agg _) Try.underlying35 Try.sizeOf31 Try.zeroValue31 (by rfl) (by rfl) rfl rfl (by rfl) (by first | rfl | exact four_get _ _ (by omega) | (simp; (first | done | fail)))) ?_
  refine dw_opd rfl rfl rfl (ao_calld (cellCode_c (r := r) (l := [s]) (c := c1) hw (fun i x h => by match i with | 0 => (simp at h; subst h; exact hs) | i + 1 => (simp at h)) (Sl.full spot_len (by exact HLp) rfl rfl rfl) (by simp) hc1) Try.call28 rfl rfl) ?_
  refine dw_opd rfl rfl rfl (ao_loada Try.isAgg28 Try.sizeOf28 rfl (by exact HLp) (by rfl) (by first | rfl | exact four_get _ _ (by omega) | (simp; (first | done | fail)))) ?_
  refine dw_opd rfl rfl rfl (ao_loada Try.isAgg31 Try.sizeOf31 rfl (by exact HLp) (by rfl) (by first | rfl | exact four_get _ _ (by omega) | (simp; (first | done | fail)))) ?_
  refine dw_opn rfl rfl rfl (ao_lit1 (v := .agg _) Try.underlying35 Try.sizeOf31 Try.zeroValue31 (by rfl) (by rfl) rfl rfl (by rfl) (by first | rfl | exact four_get _ _ (by omega) | (simp; (first | done | fail)))) ?_
  refine dw_opd rfl rfl rfl (ao_calld (stateCode_c (r := r) (l := [s]) (c := c3) hw (fun i x h => by match i with | 0 => (simp at h; subst h; exact hs) | i + 1 => (simp at h)) (Sl.full spot_len (by exact HLp) rfl rfl rfl) (by simp) hc3) Try.call29 rfl rfl) ?_
  refine dw_opn rfl rfl rfl (ao_buildSlice (A := #[.int .i64 c1, .int .i64 c3]) Try.underlying87 Try.sizeOf2 Try.zeroValue2 (by rfl) (by rfl) (by decide) (by decide) (by rfl) (by first | rfl | kernel_rfl)) ?_
  refine dw_opd rfl rfl rfl (ao_calld (ACd.val (firstOf_c (l := [c1, c3]) (Sl.full i64_len (by exact HLp) rfl rfl rfl) (by simp)) (congrArg (Value.int .i64) (stood_first2 hst hc1 hc3))) Try.call27 rfl rfl) ?_
  refine dw_opd rfl rfl rfl (ao_as (v := .int _ _) rfl) ?_
  refine dw_end ?_
  refine al_nilT ?_
  refine aw_seq ?_
  refine aw_region ?_
  refine al_opd rfl rfl rfl (ao_mv (v := .int _ _) rfl) ?_
  refine al_opd rfl rfl rfl (ao_neq rfl rfl) ?_
  refine al_nilT ?_
  refine aw_cond rfl (fun h1_ => ?_) (fun h1_ => ?_)
  · try simp only [nrm] at h1_
    first | done | omega | (exfalso; revert h1_; simp; (first | done | omega))
  try simp only [nrm] at h1_
  refine aw_skipT ?_
  refine aw_seq ?_
  refine aw_seq ?_
  refine aw_region ?_
  refine al_opd rfl rfl rfl (ao_mv (v := .int _ _) rfl) ?_
  refine al_nilT ?_
  refine aw_block ?_
  refine aw_loop (fun (gk : Nat) (fr : AFr) (G : AHeap) => ∃ get : Nat → Value, fr = ⟨35, get⟩ ∧ (∃ i : Nat, i ≤ 4 ∧ gk = 4 - i ∧ Same H.next H G ∧ H.next + 4 ≤ G.next ∧ G.blk H.next = some (.cells (roomC r) 1) ∧ G.blk (H.next + 1) = some (.cells [.int .i8 s.x, .int .i8 s.y] 1) ∧ G.blk (H.next + 2) = some (.cells (four (fun _ => 0)) 1) ∧ G.blk (H.next + 3) = some (.cells (four (upto4 (fun i => ((g i : Nat) : Int)) i)) 1) ∧ get 2 = .pointer (some ⟨H.next, 0, none⟩) ∧ get 3 = .pointer (some ⟨H.next + 1, 0, none⟩) ∧ get 4 = .pointer (some ⟨H.next + 2, 0, none⟩) ∧ get 6 = .pointer (some ⟨H.next + 3, 0, none⟩) ∧ get 24 = .int .i64 i)) (4) ⟨_, rfl, ?_⟩ ?_
  · exact ⟨0, by omega, rfl, by exact SMp, by exact LEp, by exact HLp, by exact HLp, by exact HLp, by exact HLp, rfl, rfl, rfl, rfl, rfl⟩
  · rintro gk fr G ⟨get, rfl, i, hi, rfl, hG, hnx, hb0, hb1, hb2, hb3, g2, g3, g4, g6, g24⟩
    refine aw_slot (d := 2) (v := .pointer (some ⟨H.next, 0, none⟩)) (by first | assumption | rfl) ?_
    refine aw_slot (d := 3) (v := .pointer (some ⟨H.next + 1, 0, none⟩)) (by first | assumption | rfl) ?_
    refine aw_slot (d := 4) (v := .pointer (some ⟨H.next + 2, 0, none⟩)) (by first | assumption | rfl) ?_
    refine aw_slot (d := 6) (v := .pointer (some ⟨H.next + 3, 0, none⟩)) (by first | assumption | rfl) ?_
    refine aw_slot (d := 24) (v := .int .i64 i) (by first | assumption | rfl) ?_
    refine aw_seq ?_
    refine aw_region ?_
    refine al_opd rfl rfl rfl (ao_lss rfl rfl) ?_
    refine al_nilT ?_
    refine aw_seq ?_
    refine aw_cond rfl (fun h2_ => ?_) (fun h2_ => ?_)
    · try simp only [nrm] at h2_
      refine aw_skipT ?_
      refine aw_seq ?_
      refine aw_block ?_
      refine aw_seq ?_
      refine aw_region ?_
      refine al_opd rfl rfl rfl (ao_mv (v := .int _ _) rfl) ?_
      refine al_opd rfl rfl rfl (ao_as (v := .int _ _) rfl) ?_
      refine al_nilT ?_
      refine aw_region ?_
      refine al_opd rfl rfl rfl (ao_mv (v := .int _ _) rfl) ?_
      refine al_opd rfl rfl rfl (ao_loada Try.isAgg28 Try.sizeOf28 rfl (by exact HLp) (by rfl) (by first | rfl | exact four_get _ _ (by omega) | (simp; (first | done | fail)))) ?_
      refine al_opd rfl rfl rfl (ao_loada Try.isAgg31 Try.sizeOf31 rfl (by exact HLp) (by rfl) (by first | rfl | exact four_get _ _ (by omega) | (simp; (first | done | fail)))) ?_
      refine al_opd rfl rfl rfl (ao_mv (v := .int _ _) rfl) ?_
      refine al_opd rfl rfl rfl (ao_calld (implRay_c (r := r) (s := s) (k := (i : Nat)) (n := g i) hw hs (hg i (by omega)).1 (hg i (by omega)).2) Try.call50 rfl rfl) ?_
      refine al_opd rfl rfl rfl (ao_indexAddrA Try.underlying46 Try.sizeOf2 rfl rfl (by exact IXp) (by exact IXp)) ?_
      refine al_opd rfl rfl rfl ((ao_store1 (v := .int _ _) Try.sizeOf2 (by rfl) (by rfl) (by exact HLp) (by rfl) (by (show _ < 4; simp; omega))).to (SetR.eq (by exact SRp))) ?_
      refine al_nilB ?_
      refine thenA_n ?_
      refine aw_region ?_
      first | refine al_opd rfl rfl rfl ((ao_add rfl rfl).val (nw_i64 BDp BDp)) ?_ | refine al_opd rfl rfl rfl (ao_add rfl rfl) ?_
      refine al_opd rfl rfl rfl (ao_mv (v := .int _ _) rfl) ?_
      refine al_nilT ?_
      exact ⟨_, by omega, _, rfl, i + 1, by omega, rfl, by exact SMp, by exact LEp, by exact HLp, by exact HLp, by exact HLp, (blk_set_same hb3).trans (congrArg (fun c => some (ABlk.cells c 1)) (four_put (fun i => ((g i : Nat) : Int)) i (by omega))), rfl, rfl, rfl, rfl, by rfl⟩
    · try simp only [nrm] at h2_
      refine aw_exit ?_
      refine thenA_x ?_
      refine thenA_x ?_
      refine blockA_hit ?_
      refine thenA_n ?_
      refine aw_seq ?_
      refine aw_region ?_
      refine al_opd rfl rfl rfl (ao_loada Try.isAgg46 Try.sizeOf46 rfl (by exact HLp) (by rfl) (by first | rfl | exact four_get _ _ (by omega) | (simp; (first | done | fail)))) ?_
      first | refine al_opd rfl rfl rfl ((ao_storeL Try.sizeOf46 (by rfl) (by rfl) (by exact HLp) (by first | rfl | exact four_get _ _ (by omega) | (simp; (first | done | fail))) (by first | rfl | exact four_get _ _ (by omega) | (simp; (first | done | fail))) (by first | rfl | exact four_get _ _ (by omega) | (simp; (first | done | fail)))).to (SetR.eq (by exact SRp))) ?_ | refine al_opd rfl rfl rfl ((ao_storeP (ds := [.int _ _, .int _ _, .int _ _, .int _ _]) Try.sizeOf46 (by rfl) (by rfl) (by exact HLp) (by first | rfl | exact four_get _ _ (by omega) | (simp; (first | done | fail))) (by first | rfl | exact four_get _ _ (by omega) | (simp; (first | done | fail))) (by (show _ < 4; simp; omega))).to (SetR.eq (by exact SRp))) ?_
      refine al_opd rfl rfl rfl (ao_as (v := .int _ _) rfl) ?_
      refine al_nilT ?_
      refine aw_ret ?_
      refine ends2 rfl (rv_cella Try.isAgg46 Try.sizeOf46 rfl (by exact HLp) (by rfl) (by first | rfl | exact four_get _ _ (by omega) | (simp; (first | done | fail)))) (rv_tmp (v := .int _ _) rfl) ?_
      obtain rfl : i = 4 := by omega
      exact ⟨by rw [four_all], by exact SMp⟩

end Go.Proofs.Ytmafkbminigbcaa
