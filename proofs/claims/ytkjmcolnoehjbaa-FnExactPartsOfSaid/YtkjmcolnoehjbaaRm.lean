/- Contracts of the program's functions over abstract heaps. -/
import Derived.Test.YtkjmcolnoehjbaaTab
namespace Go.Proofs.Ytkjmcolnoehjbaa
open Go Go.AW Go.Proofs
set_option linter.unusedVariables false
set_option linter.unusedSimpArgs false
set_option maxRecDepth 100000
set_option maxHeartbeats 2000000

-- laws.toUint16A10
theorem toWalls_c {f : Nat → Nat} {H : AHeap} : ACd Try.prog 35 [.agg (wallsC f).toArray] H (.agg (wallsC f).toArray) (H) := by
  refine ac_gc0 (fun β => VR.plainT β (by first | rfl | simp [plainT, plainV, plain1])) (ac_body Try.func35 rfl Try.ntmps35 rfl ?_)
  refine aw_seq ?_
  refine aw_region ?_
  refine al_opd rfl rfl rfl (ao_boxa (by rfl)) ?_
  refine al_opd rfl rfl rfl (ao_alloca (zv24) (by rfl)) ?_
  refine al_nilT ?_
  refine aw_seq ?_
  refine aw_region ?_
  refine al_opd rfl rfl rfl (ao_alloca (zv24) (by rfl)) ?_
  refine al_nilT ?_
  refine aw_seq ?_
  refine aw_seq ?_
  refine aw_region ?_
  refine al_opd rfl rfl rfl (ao_as (v := .int _ _) rfl) ?_
  refine al_nilT ?_
  refine aw_block ?_
  refine aw_loop (fun (gk : Nat) (fr : AFr) (G : AHeap) => ∃ get : Nat → Value, fr = ⟨15, get⟩ ∧ (∃ i : Nat, i ≤ 10 ∧ gk = 10 - i ∧ G = ((H.push (.cells (wallsC f) 1)).push (.cells (wallsC (fun _ => 0)) 1)).push (.cells (wallsC (upto f i)) 1) ∧ get 1 = .pointer (some ⟨H.next, 0, none⟩) ∧ get 2 = .pointer (some ⟨H.next + 1, 0, none⟩) ∧ get 3 = .pointer (some ⟨H.next + 2, 0, none⟩) ∧ get 4 = .int .i64 i)) (10) ⟨_, rfl, ?_⟩ ?_
  · exact ⟨0, by omega, rfl, rfl, rfl, rfl, rfl, rfl⟩
  · rintro gk fr G ⟨get, rfl, i, hi, rfl, rfl, g1, g2, g3, g4⟩
    refine aw_slot (d := 1) (v := .pointer (some ⟨H.next, 0, none⟩)) (by first | assumption | rfl) ?_
    refine aw_slot (d := 2) (v := .pointer (some ⟨H.next + 1, 0, none⟩)) (by first | assumption | rfl) ?_
    refine aw_slot (d := 3) (v := .pointer (some ⟨H.next + 2, 0, none⟩)) (by first | assumption | rfl) ?_
    refine aw_slot (d := 4) (v := .int .i64 i) (by first | assumption | rfl) ?_
    refine aw_seq ?_
    refine aw_seq ?_
    refine aw_region ?_
    refine al_opd rfl rfl rfl (ao_mv (v := .int _ _) rfl) ?_
    refine al_opd rfl rfl rfl (ao_lss rfl rfl) ?_
    refine al_nilT ?_
    refine aw_cond rfl (fun h1_ => ?_) (fun h1_ => ?_)
    · try simp only [decide_eq_true_eq, decide_eq_false_iff_not, Bool.not_eq_true', Bool.not_eq_false', Bool.and_eq_true, Bool.or_eq_true, Bool.and_eq_false_iff, Bool.or_eq_false_iff, beq_iff_eq, bne_iff_ne, beq_eq_false_iff_ne, bne_eq_false_iff_eq, ne_eq, Decidable.not_not, Bool.decide_eq_true] at h1_
      refine aw_skipT ?_
      refine aw_seq ?_
      refine aw_block ?_
      refine aw_region ?_
      refine al_opd rfl rfl rfl (ao_mv (v := .int _ _) rfl) ?_
      refine al_opd rfl rfl rfl (ao_mv (v := .int _ _) rfl) ?_
      refine al_opd rfl rfl rfl (ao_indexAddrA Try.underlying24 Try.sizeOf23 rfl rfl (by exact IXp) (by exact IXp)) ?_
      refine al_opd rfl rfl rfl (ao_load (v := .int _ _) Try.isAgg23 (by rfl) (by exact HLp) (by rfl) (by first | rfl | exact wallsL _ _ (by omega) | exact roomL _ _ (by omega) | exact roomLI _ _ (by omega) | (simp; (first | done | fail)))) ?_
      refine al_opd rfl rfl rfl (ao_indexAddrA Try.underlying24 Try.sizeOf23 rfl rfl (by exact IXp) (by exact IXp)) ?_
      refine al_opd rfl rfl rfl ((ao_store1 (v := .int _ _) Try.sizeOf23 (by rfl) (by rfl) (by exact HLp) (by rfl) (by (show _ < 10; simp; omega))).to (SetR.eq (by exact SRp))) ?_
      refine al_nilB ?_
      refine thenA_n ?_
      refine aw_region ?_
      refine al_opd rfl rfl rfl (ao_mv (v := .int _ _) rfl) ?_
      first | refine al_opd rfl rfl rfl ((ao_add rfl rfl).val (nw_i64 BDp BDp)) ?_ | refine al_opd rfl rfl rfl (ao_add rfl rfl) ?_
      refine al_opd rfl rfl rfl (ao_as (v := .int _ _) rfl) ?_
      refine al_nilT ?_
      exact ⟨_, by omega, _, rfl, i + 1, by omega, rfl, congrArg (fun c => ((H.push (.cells (wallsC f) 1)).push (.cells (wallsC (fun _ => 0)) 1)).push (.cells c 1)) (upto_put f i (by omega)), rfl, rfl, rfl, by rfl⟩
    · try simp only [decide_eq_true_eq, decide_eq_false_iff_not, Bool.not_eq_true', Bool.not_eq_false', Bool.and_eq_true, Bool.or_eq_true, Bool.and_eq_false_iff, Bool.or_eq_false_iff, beq_iff_eq, bne_iff_ne, beq_eq_false_iff_ne, bne_eq_false_iff_eq, ne_eq, Decidable.not_not, Bool.decide_eq_true] at h1_
      refine aw_exit ?_
      refine thenA_x ?_
      refine thenA_x ?_
      refine blockA_hit ?_
      refine thenA_n ?_
      refine aw_seq ?_
      refine aw_region ?_
      refine al_opd rfl rfl rfl (ao_loada Try.isAgg24 Try.sizeOf24 rfl (by exact HLp) (by rfl) (by first | rfl | exact wallsL _ _ (by omega) | exact roomL _ _ (by omega) | exact roomLI _ _ (by omega) | (simp; (first | done | fail)))) ?_
      first | refine al_opd rfl rfl rfl ((ao_storeL Try.sizeOf24 (by rfl) (by rfl) (by exact HLp) (by first | rfl | exact wallsL _ _ (by omega) | exact roomL _ _ (by omega) | exact roomLI _ _ (by omega) | (simp; (first | done | fail))) (by first | rfl | exact wallsL _ _ (by omega) | exact roomL _ _ (by omega) | exact roomLI _ _ (by omega) | (simp; (first | done | fail))) (by first | rfl | exact wallsL _ _ (by omega) | exact roomL _ _ (by omega) | exact roomLI _ _ (by omega) | (simp; (first | done | fail)))).to (SetR.eq (by exact SRp))) ?_ | refine al_opd rfl rfl rfl ((ao_storeP (ds := [.int _ _, .int _ _, .int _ _, .int _ _, .int _ _, .int _ _, .int _ _, .int _ _, .int _ _, .int _ _]) Try.sizeOf24 (by rfl) (by rfl) (by exact HLp) (by first | rfl | exact wallsL _ _ (by omega) | exact roomL _ _ (by omega) | exact roomLI _ _ (by omega) | (simp; (first | done | fail))) (by first | rfl | exact wallsL _ _ (by omega) | exact roomL _ _ (by omega) | exact roomLI _ _ (by omega) | (simp; (first | done | fail))) (by (show _ < 10; simp; omega))).to (SetR.eq (by exact SRp))) ?_
      refine al_nilT ?_
      refine aw_ret ?_
      refine ends1 rfl (rv_cella Try.isAgg24 Try.sizeOf24 rfl (by exact HLp) (by rfl) (by first | rfl | exact wallsL _ _ (by omega) | exact roomL _ _ (by omega) | exact roomLI _ _ (by omega) | (simp; (first | done | fail)))) ?_
      obtain rfl : i = 10 := by omega
      exact ⟨by rw [upto_all], by exact SMp⟩

-- laws.toRoom
theorem toRoom_c {r : Room} {H : AHeap} : ACd Try.prog 11 [.agg (roomC r).toArray] H (.agg (roomC r).toArray) (H) := by
  refine ac_gc0 (fun β => VR.plainT β (by first | rfl | simp [plainT, plainV, plain1])) (ac_body Try.func11 rfl Try.ntmps11 rfl ?_)
  refine aw_seq ?_
  refine aw_region ?_
  refine al_opd rfl rfl rfl (ao_boxa (by rfl)) ?_
  refine al_opd rfl rfl rfl (ao_alloca (zv31) (by rfl)) ?_
  refine al_nilT ?_
  refine aw_seq ?_
  refine aw_region ?_
  refine al_opd rfl rfl rfl (ao_alloca (zv31) (by rfl)) ?_
  refine al_nilT ?_
  refine aw_seq ?_
  refine aw_region ?_
  refine al_opd rfl rfl rfl (ao_fieldAddr fo_26_0 rfl) ?_
  refine al_opd rfl rfl rfl (ao_load (v := .int _ _) Try.isAgg22 (by rfl) (by exact HLp) (by rfl) (by exact RFp)) ?_
  refine al_opd rfl rfl rfl (ao_fieldAddr fo_31_0 rfl) ?_
  refine al_opd rfl rfl rfl ((ao_store1 (v := .int _ _) Try.sizeOf22 (by rfl) (by rfl) (by exact HLp) (by rfl) (by exact LTp)).to (SetR.eq (by exact SRp))) ?_
  refine al_nilT ?_
  refine aw_seq ?_
  refine aw_region ?_
  refine al_opd rfl rfl rfl (ao_fieldAddr fo_26_1 rfl) ?_
  refine al_opd rfl rfl rfl (ao_load (v := .int _ _) Try.isAgg22 (by rfl) (by exact HLp) (by rfl) (by exact RFp)) ?_
  refine al_opd rfl rfl rfl (ao_fieldAddr fo_31_1 rfl) ?_
  refine al_opd rfl rfl rfl ((ao_store1 (v := .int _ _) Try.sizeOf22 (by rfl) (by rfl) (by exact HLp) (by rfl) (by exact LTp)).to (SetR.eq (by exact SRp))) ?_
  refine al_nilT ?_
  refine aw_seq ?_
  refine aw_region ?_
  refine al_opd rfl rfl rfl (ao_fieldAddr fo_26_2 rfl) ?_
  refine al_opd rfl rfl rfl (ao_loadp (ds := wallsC r.f) Try.isAgg24 Try.sizeOf24 rfl (by exact HLp) (by rfl) (by exact Nat.le_of_ble_eq_true rfl) (by rfl)) ?_
  refine al_opd rfl rfl rfl (ao_calld (toWalls_c (f := r.f)) Try.call35 rfl rfl) ?_
  refine al_opd rfl rfl rfl (ao_fieldAddr fo_31_2 rfl) ?_
  first | refine al_opd rfl rfl rfl ((ao_storeL Try.sizeOf24 (by rfl) (by rfl) (by exact HLp) (by exact RFp) (by exact RFp) (by exact RFp)).to (SetR.eq (by exact SRp))) ?_ | refine al_opd rfl rfl rfl ((ao_storeP (ds := [.int _ _, .int _ _, .int _ _, .int _ _, .int _ _, .int _ _, .int _ _, .int _ _, .int _ _, .int _ _]) Try.sizeOf24 (by rfl) (by rfl) (by exact HLp) (by exact RFp) (by exact RFp) (by exact LTp)).to (SetR.eq (by exact SRp))) ?_
  refine al_nilT ?_
  refine aw_seq ?_
  refine aw_region ?_
  refine al_opd rfl rfl rfl (ao_loada Try.isAgg31 Try.sizeOf31 rfl (by exact HLp) (by rfl) (by exact RFp)) ?_
  first | refine al_opd rfl rfl rfl ((ao_storeL Try.sizeOf31 (by rfl) (by rfl) (by exact HLp) (by exact RFp) (by exact RFp) (by exact RFp)).to (SetR.eq (by exact SRp))) ?_ | refine al_opd rfl rfl rfl ((ao_storeP (ds := [.int _ _, .int _ _, .int _ _, .int _ _, .int _ _, .int _ _, .int _ _, .int _ _, .int _ _, .int _ _, .int _ _, .int _ _]) Try.sizeOf31 (by rfl) (by rfl) (by exact HLp) (by exact RFp) (by exact RFp) (by exact LTp)).to (SetR.eq (by exact SRp))) ?_
  refine al_nilT ?_
  refine aw_ret ?_
  refine ends1 rfl (rv_cella Try.isAgg31 Try.sizeOf31 rfl (by exact HLp) (by rfl) (by exact RFp)) ?_
  exact ⟨by first | rfl | (simp [*]; (first | done | fail)), by exact SMp⟩

-- laws.toSpot
theorem toSpot_c {s : Spot} {H : AHeap} : ACd Try.prog 12 [.agg #[.int .i8 s.x, .int .i8 s.y]] H (.agg #[.int .i8 s.x, .int .i8 s.y]) (H) := by
  refine ac_gc0 (fun β => VR.plainT β (by first | rfl | simp [plainT, plainV, plain1])) (ac_body Try.func12 rfl Try.ntmps12 rfl ?_)
  refine aw_seq ?_
  refine aw_region ?_
  refine al_opd rfl rfl rfl (ao_boxa (by rfl)) ?_
  refine al_opd rfl rfl rfl (ao_alloca (zv33) (by rfl)) ?_
  refine al_nilT ?_
  refine aw_seq ?_
  refine aw_region ?_
  refine al_opd rfl rfl rfl (ao_alloca (zv33) (by rfl)) ?_
  refine al_nilT ?_
  refine aw_seq ?_
  refine aw_region ?_
  refine al_opd rfl rfl rfl (ao_fieldAddr fo_28_0 rfl) ?_
  refine al_opd rfl rfl rfl (ao_load (v := .int _ _) Try.isAgg22 (by rfl) (by exact HLp) (by rfl) (by exact RFp)) ?_
  refine al_opd rfl rfl rfl (ao_fieldAddr fo_33_0 rfl) ?_
  refine al_opd rfl rfl rfl ((ao_store1 (v := .int _ _) Try.sizeOf22 (by rfl) (by rfl) (by exact HLp) (by rfl) (by exact LTp)).to (SetR.eq (by exact SRp))) ?_
  refine al_nilT ?_
  refine aw_seq ?_
  refine aw_region ?_
  refine al_opd rfl rfl rfl (ao_fieldAddr fo_28_1 rfl) ?_
  refine al_opd rfl rfl rfl (ao_load (v := .int _ _) Try.isAgg22 (by rfl) (by exact HLp) (by rfl) (by exact RFp)) ?_
  refine al_opd rfl rfl rfl (ao_fieldAddr fo_33_1 rfl) ?_
  refine al_opd rfl rfl rfl ((ao_store1 (v := .int _ _) Try.sizeOf22 (by rfl) (by rfl) (by exact HLp) (by rfl) (by exact LTp)).to (SetR.eq (by exact SRp))) ?_
  refine al_nilT ?_
  refine aw_seq ?_
  refine aw_region ?_
  refine al_opd rfl rfl rfl (ao_loada Try.isAgg33 Try.sizeOf33 rfl (by exact HLp) (by rfl) (by exact RFp)) ?_
  first | refine al_opd rfl rfl rfl ((ao_storeL Try.sizeOf33 (by rfl) (by rfl) (by exact HLp) (by exact RFp) (by exact RFp) (by exact RFp)).to (SetR.eq (by exact SRp))) ?_ | refine al_opd rfl rfl rfl ((ao_storeP (ds := [.int _ _, .int _ _]) Try.sizeOf33 (by rfl) (by rfl) (by exact HLp) (by exact RFp) (by exact RFp) (by exact LTp)).to (SetR.eq (by exact SRp))) ?_
  refine al_nilT ?_
  refine aw_ret ?_
  refine ends1 rfl (rv_cella Try.isAgg33 Try.sizeOf33 rfl (by exact HLp) (by rfl) (by exact RFp)) ?_
  exact ⟨by first | rfl | (simp [*]; (first | done | fail)), by exact SMp⟩

-- laws.eqSpot
theorem eqSpot_c {s : Spot} {H : AHeap} : ACd Try.prog 16 [.agg #[.int .i8 s.x, .int .i8 s.y], .agg #[.int .i8 s.x, .int .i8 s.y]] H (.bool true) (H) := by
  refine ac_gc0 (fun β => VR.plainT β (by first | rfl | simp [plainT, plainV, plain1])) (ac_body Try.func16 rfl Try.ntmps16 rfl ?_)
  refine aw_seq ?_
  refine aw_region ?_
  refine al_opd rfl rfl rfl (ao_boxa (by rfl)) ?_
  refine al_opd rfl rfl rfl (ao_boxa (by rfl)) ?_
  refine al_opd rfl rfl rfl (ao_as (v := .bool _) rfl) ?_
  refine al_nilT ?_
  refine aw_seq ?_
  refine aw_seq ?_
  refine aw_region ?_
  refine al_opd rfl rfl rfl (ao_fieldAddr fo_33_0 rfl) ?_
  refine al_opd rfl rfl rfl (ao_load (v := .int _ _) Try.isAgg22 (by rfl) (by exact HLp) (by rfl) (by exact RFp)) ?_
  refine al_opd rfl rfl rfl (ao_fieldAddr fo_33_0 rfl) ?_
  refine al_opd rfl rfl rfl (ao_load (v := .int _ _) Try.isAgg22 (by rfl) (by exact HLp) (by rfl) (by exact RFp)) ?_
  refine al_opd rfl rfl rfl (ao_neq rfl rfl) ?_
  refine al_nilT ?_
  refine aw_cond rfl (fun h1_ => ?_) (fun h1_ => ?_)
  · try simp only [decide_eq_true_eq, decide_eq_false_iff_not, Bool.not_eq_true', Bool.not_eq_false', Bool.and_eq_true, Bool.or_eq_true, Bool.and_eq_false_iff, Bool.or_eq_false_iff, beq_iff_eq, bne_iff_ne, beq_eq_false_iff_ne, bne_eq_false_iff_eq, ne_eq, Decidable.not_not, Bool.decide_eq_true] at h1_
    first | done | omega | (exfalso; revert h1_; simp; (first | done | omega))
  · try simp only [decide_eq_true_eq, decide_eq_false_iff_not, Bool.not_eq_true', Bool.not_eq_false', Bool.and_eq_true, Bool.or_eq_true, Bool.and_eq_false_iff, Bool.or_eq_false_iff, beq_iff_eq, bne_iff_ne, beq_eq_false_iff_ne, bne_eq_false_iff_eq, ne_eq, Decidable.not_not, Bool.decide_eq_true] at h1_
    refine aw_skipT ?_
    refine aw_seq ?_
    refine aw_seq ?_
    refine aw_region ?_
    refine al_opd rfl rfl rfl (ao_fieldAddr fo_33_1 rfl) ?_
    refine al_opd rfl rfl rfl (ao_load (v := .int _ _) Try.isAgg22 (by rfl) (by exact HLp) (by rfl) (by exact RFp)) ?_
    refine al_opd rfl rfl rfl (ao_fieldAddr fo_33_1 rfl) ?_
    refine al_opd rfl rfl rfl (ao_load (v := .int _ _) Try.isAgg22 (by rfl) (by exact HLp) (by rfl) (by exact RFp)) ?_
    refine al_opd rfl rfl rfl (ao_neq rfl rfl) ?_
    refine al_nilT ?_
    refine aw_cond rfl (fun h2_ => ?_) (fun h2_ => ?_)
    · try simp only [decide_eq_true_eq, decide_eq_false_iff_not, Bool.not_eq_true', Bool.not_eq_false', Bool.and_eq_true, Bool.or_eq_true, Bool.and_eq_false_iff, Bool.or_eq_false_iff, beq_iff_eq, bne_iff_ne, beq_eq_false_iff_ne, bne_eq_false_iff_eq, ne_eq, Decidable.not_not, Bool.decide_eq_true] at h2_
      first | done | omega | (exfalso; revert h2_; simp; (first | done | omega))
    · try simp only [decide_eq_true_eq, decide_eq_false_iff_not, Bool.not_eq_true', Bool.not_eq_false', Bool.and_eq_true, Bool.or_eq_true, Bool.and_eq_false_iff, Bool.or_eq_false_iff, beq_iff_eq, bne_iff_ne, beq_eq_false_iff_ne, bne_eq_false_iff_eq, ne_eq, Decidable.not_not, Bool.decide_eq_true] at h2_
      refine aw_skipT ?_
      refine aw_seq ?_
      refine aw_region ?_
      refine al_opd rfl rfl rfl (ao_as (v := .bool _) rfl) ?_
      refine al_nilT ?_
      refine aw_ret ?_
      refine ends1 rfl (rv_tmp (v := .bool _) rfl) ?_
      exact ⟨by first | rfl | (simp [*]; (first | done | fail)), by exact SMp⟩

-- impl.NextSpot
theorem implNext_c {s : Spot} {k : Int} {H : AHeap} : ACd Try.prog 74 [.agg #[.int .i8 s.x, .int .i8 s.y], .int .i64 k] H (.agg #[.int .i8 (nextSpot s k).x, .int .i8 (nextSpot s k).y]) (H) := by
  refine ac_gc0 (fun β => VR.plainT β (by first | rfl | simp [plainT, plainV, plain1])) (ac_body Try.func74 rfl Try.ntmps74 rfl ?_)
  refine aw_seq ?_
  refine aw_region ?_
  refine al_opd rfl rfl rfl (ao_boxa (by rfl)) ?_
  refine al_opd rfl rfl rfl (ao_alloca (zv33) (by rfl)) ?_
  refine al_nilT ?_
  refine aw_seq ?_
  refine aw_seq ?_
  refine aw_region ?_
  refine al_opd rfl rfl rfl (ao_mv (v := .int _ _) rfl) ?_
  refine al_nilT ?_
  refine aw_block ?_
  refine aw_seq ?_
  refine aw_region ?_
  refine al_opd rfl rfl rfl (ao_eql rfl rfl) ?_
  refine al_opd rfl rfl rfl (ao_as (v := .bool _) rfl) ?_
  refine al_nilT ?_
  refine aw_cond rfl (fun h1_ => ?_) (fun h1_ => ?_)
  · try simp only [decide_eq_true_eq, decide_eq_false_iff_not, Bool.not_eq_true', Bool.not_eq_false', Bool.and_eq_true, Bool.or_eq_true, Bool.and_eq_false_iff, Bool.or_eq_false_iff, beq_iff_eq, bne_iff_ne, beq_eq_false_iff_ne, bne_eq_false_iff_eq, ne_eq, Decidable.not_not, Bool.decide_eq_true] at h1_
    refine aw_region ?_
    refine al_opd rfl rfl rfl (ao_fieldAddr fo_33_1 rfl) ?_
    refine al_opd rfl rfl rfl (ao_load (v := .int _ _) Try.isAgg22 (by rfl) (by exact HLp) (by rfl) (by exact RFp)) ?_
    first | refine al_opd rfl rfl rfl ((ao_sub rfl rfl).val (nw_i8 BDp BDp)) ?_ | refine al_opd rfl rfl rfl (ao_sub rfl rfl) ?_
    refine al_opd rfl rfl rfl (ao_fieldAddr fo_33_1 rfl) ?_
    refine al_opd rfl rfl rfl ((ao_store1 (v := .int _ _) Try.sizeOf22 (by rfl) (by rfl) (by exact HLp) (by rfl) (by exact LTp)).to (SetR.eq (by exact SRp))) ?_
    refine al_nilB ?_
    refine thenA_n ?_
    refine aw_seq ?_
    refine aw_region ?_
    refine al_opd rfl rfl rfl (ao_loada Try.isAgg33 Try.sizeOf33 rfl (by exact HLp) (by rfl) (by exact RFp)) ?_
    first | refine al_opd rfl rfl rfl ((ao_storeL Try.sizeOf33 (by rfl) (by rfl) (by exact HLp) (by exact RFp) (by exact RFp) (by exact RFp)).to (SetR.eq (by exact SRp))) ?_ | refine al_opd rfl rfl rfl ((ao_storeP (ds := [.int _ _, .int _ _]) Try.sizeOf33 (by rfl) (by rfl) (by exact HLp) (by exact RFp) (by exact RFp) (by exact LTp)).to (SetR.eq (by exact SRp))) ?_
    refine al_nilT ?_
    refine aw_ret ?_
    refine ends1 rfl (rv_cella Try.isAgg33 Try.sizeOf33 rfl (by exact HLp) (by rfl) (by exact RFp)) ?_
    exact ⟨by simp [nextSpot, *], by exact SMp⟩
  · try simp only [decide_eq_true_eq, decide_eq_false_iff_not, Bool.not_eq_true', Bool.not_eq_false', Bool.and_eq_true, Bool.or_eq_true, Bool.and_eq_false_iff, Bool.or_eq_false_iff, beq_iff_eq, bne_iff_ne, beq_eq_false_iff_ne, bne_eq_false_iff_eq, ne_eq, Decidable.not_not, Bool.decide_eq_true] at h1_
    refine aw_seq ?_
    refine aw_region ?_
    refine al_opd rfl rfl rfl (ao_eql rfl rfl) ?_
    refine al_opd rfl rfl rfl (ao_as (v := .bool _) rfl) ?_
    refine al_nilT ?_
    refine aw_cond rfl (fun h2_ => ?_) (fun h2_ => ?_)
    · try simp only [decide_eq_true_eq, decide_eq_false_iff_not, Bool.not_eq_true', Bool.not_eq_false', Bool.and_eq_true, Bool.or_eq_true, Bool.and_eq_false_iff, Bool.or_eq_false_iff, beq_iff_eq, bne_iff_ne, beq_eq_false_iff_ne, bne_eq_false_iff_eq, ne_eq, Decidable.not_not, Bool.decide_eq_true] at h2_
      refine aw_region ?_
      refine al_opd rfl rfl rfl (ao_fieldAddr fo_33_0 rfl) ?_
      refine al_opd rfl rfl rfl (ao_load (v := .int _ _) Try.isAgg22 (by rfl) (by exact HLp) (by rfl) (by exact RFp)) ?_
      first | refine al_opd rfl rfl rfl ((ao_add rfl rfl).val (nw_i8 BDp BDp)) ?_ | refine al_opd rfl rfl rfl (ao_add rfl rfl) ?_
      refine al_opd rfl rfl rfl (ao_fieldAddr fo_33_0 rfl) ?_
      refine al_opd rfl rfl rfl ((ao_store1 (v := .int _ _) Try.sizeOf22 (by rfl) (by rfl) (by exact HLp) (by rfl) (by exact LTp)).to (SetR.eq (by exact SRp))) ?_
      refine al_nilB ?_
      refine thenA_n ?_
      refine aw_seq ?_
      refine aw_region ?_
      refine al_opd rfl rfl rfl (ao_loada Try.isAgg33 Try.sizeOf33 rfl (by exact HLp) (by rfl) (by exact RFp)) ?_
      first | refine al_opd rfl rfl rfl ((ao_storeL Try.sizeOf33 (by rfl) (by rfl) (by exact HLp) (by exact RFp) (by exact RFp) (by exact RFp)).to (SetR.eq (by exact SRp))) ?_ | refine al_opd rfl rfl rfl ((ao_storeP (ds := [.int _ _, .int _ _]) Try.sizeOf33 (by rfl) (by rfl) (by exact HLp) (by exact RFp) (by exact RFp) (by exact LTp)).to (SetR.eq (by exact SRp))) ?_
      refine al_nilT ?_
      refine aw_ret ?_
      refine ends1 rfl (rv_cella Try.isAgg33 Try.sizeOf33 rfl (by exact HLp) (by rfl) (by exact RFp)) ?_
      exact ⟨by simp [nextSpot, *], by exact SMp⟩
    · try simp only [decide_eq_true_eq, decide_eq_false_iff_not, Bool.not_eq_true', Bool.not_eq_false', Bool.and_eq_true, Bool.or_eq_true, Bool.and_eq_false_iff, Bool.or_eq_false_iff, beq_iff_eq, bne_iff_ne, beq_eq_false_iff_ne, bne_eq_false_iff_eq, ne_eq, Decidable.not_not, Bool.decide_eq_true] at h2_
      refine aw_seq ?_
      refine aw_region ?_
      refine al_opd rfl rfl rfl (ao_eql rfl rfl) ?_
      refine al_opd rfl rfl rfl (ao_as (v := .bool _) rfl) ?_
      refine al_nilT ?_
      refine aw_cond rfl (fun h3_ => ?_) (fun h3_ => ?_)
      · try simp only [decide_eq_true_eq, decide_eq_false_iff_not, Bool.not_eq_true', Bool.not_eq_false', Bool.and_eq_true, Bool.or_eq_true, Bool.and_eq_false_iff, Bool.or_eq_false_iff, beq_iff_eq, bne_iff_ne, beq_eq_false_iff_ne, bne_eq_false_iff_eq, ne_eq, Decidable.not_not, Bool.decide_eq_true] at h3_
        refine aw_region ?_
        refine al_opd rfl rfl rfl (ao_fieldAddr fo_33_1 rfl) ?_
        refine al_opd rfl rfl rfl (ao_load (v := .int _ _) Try.isAgg22 (by rfl) (by exact HLp) (by rfl) (by exact RFp)) ?_
        first | refine al_opd rfl rfl rfl ((ao_add rfl rfl).val (nw_i8 BDp BDp)) ?_ | refine al_opd rfl rfl rfl (ao_add rfl rfl) ?_
        refine al_opd rfl rfl rfl (ao_fieldAddr fo_33_1 rfl) ?_
        refine al_opd rfl rfl rfl ((ao_store1 (v := .int _ _) Try.sizeOf22 (by rfl) (by rfl) (by exact HLp) (by rfl) (by exact LTp)).to (SetR.eq (by exact SRp))) ?_
        refine al_nilB ?_
        refine thenA_n ?_
        refine aw_seq ?_
        refine aw_region ?_
        refine al_opd rfl rfl rfl (ao_loada Try.isAgg33 Try.sizeOf33 rfl (by exact HLp) (by rfl) (by exact RFp)) ?_
        first | refine al_opd rfl rfl rfl ((ao_storeL Try.sizeOf33 (by rfl) (by rfl) (by exact HLp) (by exact RFp) (by exact RFp) (by exact RFp)).to (SetR.eq (by exact SRp))) ?_ | refine al_opd rfl rfl rfl ((ao_storeP (ds := [.int _ _, .int _ _]) Try.sizeOf33 (by rfl) (by rfl) (by exact HLp) (by exact RFp) (by exact RFp) (by exact LTp)).to (SetR.eq (by exact SRp))) ?_
        refine al_nilT ?_
        refine aw_ret ?_
        refine ends1 rfl (rv_cella Try.isAgg33 Try.sizeOf33 rfl (by exact HLp) (by rfl) (by exact RFp)) ?_
        exact ⟨by simp [nextSpot, *], by exact SMp⟩
      · try simp only [decide_eq_true_eq, decide_eq_false_iff_not, Bool.not_eq_true', Bool.not_eq_false', Bool.and_eq_true, Bool.or_eq_true, Bool.and_eq_false_iff, Bool.or_eq_false_iff, beq_iff_eq, bne_iff_ne, beq_eq_false_iff_ne, bne_eq_false_iff_eq, ne_eq, Decidable.not_not, Bool.decide_eq_true] at h3_
        refine aw_seq ?_
        refine aw_region ?_
        refine al_opd rfl rfl rfl (ao_eql rfl rfl) ?_
        refine al_opd rfl rfl rfl (ao_as (v := .bool _) rfl) ?_
        refine al_nilT ?_
        refine aw_cond rfl (fun h4_ => ?_) (fun h4_ => ?_)
        · try simp only [decide_eq_true_eq, decide_eq_false_iff_not, Bool.not_eq_true', Bool.not_eq_false', Bool.and_eq_true, Bool.or_eq_true, Bool.and_eq_false_iff, Bool.or_eq_false_iff, beq_iff_eq, bne_iff_ne, beq_eq_false_iff_ne, bne_eq_false_iff_eq, ne_eq, Decidable.not_not, Bool.decide_eq_true] at h4_
          refine aw_region ?_
          refine al_opd rfl rfl rfl (ao_fieldAddr fo_33_0 rfl) ?_
          refine al_opd rfl rfl rfl (ao_load (v := .int _ _) Try.isAgg22 (by rfl) (by exact HLp) (by rfl) (by exact RFp)) ?_
          first | refine al_opd rfl rfl rfl ((ao_sub rfl rfl).val (nw_i8 BDp BDp)) ?_ | refine al_opd rfl rfl rfl (ao_sub rfl rfl) ?_
          refine al_opd rfl rfl rfl (ao_fieldAddr fo_33_0 rfl) ?_
          refine al_opd rfl rfl rfl ((ao_store1 (v := .int _ _) Try.sizeOf22 (by rfl) (by rfl) (by exact HLp) (by rfl) (by exact LTp)).to (SetR.eq (by exact SRp))) ?_
          refine al_nilB ?_
          refine thenA_n ?_
          refine aw_seq ?_
          refine aw_region ?_
          refine al_opd rfl rfl rfl (ao_loada Try.isAgg33 Try.sizeOf33 rfl (by exact HLp) (by rfl) (by exact RFp)) ?_
          first | refine al_opd rfl rfl rfl ((ao_storeL Try.sizeOf33 (by rfl) (by rfl) (by exact HLp) (by exact RFp) (by exact RFp) (by exact RFp)).to (SetR.eq (by exact SRp))) ?_ | refine al_opd rfl rfl rfl ((ao_storeP (ds := [.int _ _, .int _ _]) Try.sizeOf33 (by rfl) (by rfl) (by exact HLp) (by exact RFp) (by exact RFp) (by exact LTp)).to (SetR.eq (by exact SRp))) ?_
          refine al_nilT ?_
          refine aw_ret ?_
          refine ends1 rfl (rv_cella Try.isAgg33 Try.sizeOf33 rfl (by exact HLp) (by rfl) (by exact RFp)) ?_
          exact ⟨by simp [nextSpot, *], by exact SMp⟩
        · try simp only [decide_eq_true_eq, decide_eq_false_iff_not, Bool.not_eq_true', Bool.not_eq_false', Bool.and_eq_true, Bool.or_eq_true, Bool.and_eq_false_iff, Bool.or_eq_false_iff, beq_iff_eq, bne_iff_ne, beq_eq_false_iff_ne, bne_eq_false_iff_eq, ne_eq, Decidable.not_not, Bool.decide_eq_true] at h4_
          refine aw_skipB ?_
          refine thenA_n ?_
          refine aw_seq ?_
          refine aw_region ?_
          refine al_opd rfl rfl rfl (ao_loada Try.isAgg33 Try.sizeOf33 rfl (by exact HLp) (by rfl) (by exact RFp)) ?_
          first | refine al_opd rfl rfl rfl ((ao_storeL Try.sizeOf33 (by rfl) (by rfl) (by exact HLp) (by exact RFp) (by exact RFp) (by exact RFp)).to (SetR.eq (by exact SRp))) ?_ | refine al_opd rfl rfl rfl ((ao_storeP (ds := [.int _ _, .int _ _]) Try.sizeOf33 (by rfl) (by rfl) (by exact HLp) (by exact RFp) (by exact RFp) (by exact LTp)).to (SetR.eq (by exact SRp))) ?_
          refine al_nilT ?_
          refine aw_ret ?_
          refine ends1 rfl (rv_cella Try.isAgg33 Try.sizeOf33 rfl (by exact HLp) (by rfl) (by exact RFp)) ?_
          exact ⟨by simp [nextSpot, *], by exact SMp⟩

-- spec.l01Next
theorem l01Next_c {s : Spot} {k : Int} {H : AHeap} : ACd Try.prog 76 [.agg #[.int .i8 s.x, .int .i8 s.y], .int .i64 k] H (.agg #[.int .i8 (nextSpot s k).x, .int .i8 (nextSpot s k).y]) (H) := by
  refine ac_gc0 (fun β => VR.plainT β (by first | rfl | simp [plainT, plainV, plain1])) (ac_body Try.func76 rfl Try.ntmps76 rfl ?_)
  refine aw_seq ?_
  refine aw_region ?_
  refine al_opd rfl rfl rfl (ao_boxa (by rfl)) ?_
  refine al_opd rfl rfl rfl (ao_alloca (zv33) (by rfl)) ?_
  refine al_nilT ?_
  refine aw_seq ?_
  refine aw_seq ?_
  refine aw_region ?_
  refine al_opd rfl rfl rfl (ao_mv (v := .int _ _) rfl) ?_
  refine al_nilT ?_
  refine aw_block ?_
  refine aw_seq ?_
  refine aw_region ?_
  refine al_opd rfl rfl rfl (ao_eql rfl rfl) ?_
  refine al_opd rfl rfl rfl (ao_as (v := .bool _) rfl) ?_
  refine al_nilT ?_
  refine aw_cond rfl (fun h1_ => ?_) (fun h1_ => ?_)
  · try simp only [decide_eq_true_eq, decide_eq_false_iff_not, Bool.not_eq_true', Bool.not_eq_false', Bool.and_eq_true, Bool.or_eq_true, Bool.and_eq_false_iff, Bool.or_eq_false_iff, beq_iff_eq, bne_iff_ne, beq_eq_false_iff_ne, bne_eq_false_iff_eq, ne_eq, Decidable.not_not, Bool.decide_eq_true] at h1_
    refine aw_region ?_
    refine al_opd rfl rfl rfl (ao_fieldAddr fo_33_1 rfl) ?_
    refine al_opd rfl rfl rfl (ao_load (v := .int _ _) Try.isAgg22 (by rfl) (by exact HLp) (by rfl) (by exact RFp)) ?_
    first | refine al_opd rfl rfl rfl ((ao_sub rfl rfl).val (nw_i8 BDp BDp)) ?_ | refine al_opd rfl rfl rfl (ao_sub rfl rfl) ?_
    refine al_opd rfl rfl rfl (ao_fieldAddr fo_33_1 rfl) ?_
    refine al_opd rfl rfl rfl ((ao_store1 (v := .int _ _) Try.sizeOf22 (by rfl) (by rfl) (by exact HLp) (by rfl) (by exact LTp)).to (SetR.eq (by exact SRp))) ?_
    refine al_nilB ?_
    refine thenA_n ?_
    refine aw_seq ?_
    refine aw_region ?_
    refine al_opd rfl rfl rfl (ao_loada Try.isAgg33 Try.sizeOf33 rfl (by exact HLp) (by rfl) (by exact RFp)) ?_
    first | refine al_opd rfl rfl rfl ((ao_storeL Try.sizeOf33 (by rfl) (by rfl) (by exact HLp) (by exact RFp) (by exact RFp) (by exact RFp)).to (SetR.eq (by exact SRp))) ?_ | refine al_opd rfl rfl rfl ((ao_storeP (ds := [.int _ _, .int _ _]) Try.sizeOf33 (by rfl) (by rfl) (by exact HLp) (by exact RFp) (by exact RFp) (by exact LTp)).to (SetR.eq (by exact SRp))) ?_
    refine al_nilT ?_
    refine aw_ret ?_
    refine ends1 rfl (rv_cella Try.isAgg33 Try.sizeOf33 rfl (by exact HLp) (by rfl) (by exact RFp)) ?_
    exact ⟨by simp [nextSpot, *], by exact SMp⟩
  · try simp only [decide_eq_true_eq, decide_eq_false_iff_not, Bool.not_eq_true', Bool.not_eq_false', Bool.and_eq_true, Bool.or_eq_true, Bool.and_eq_false_iff, Bool.or_eq_false_iff, beq_iff_eq, bne_iff_ne, beq_eq_false_iff_ne, bne_eq_false_iff_eq, ne_eq, Decidable.not_not, Bool.decide_eq_true] at h1_
    refine aw_seq ?_
    refine aw_region ?_
    refine al_opd rfl rfl rfl (ao_eql rfl rfl) ?_
    refine al_opd rfl rfl rfl (ao_as (v := .bool _) rfl) ?_
    refine al_nilT ?_
    refine aw_cond rfl (fun h2_ => ?_) (fun h2_ => ?_)
    · try simp only [decide_eq_true_eq, decide_eq_false_iff_not, Bool.not_eq_true', Bool.not_eq_false', Bool.and_eq_true, Bool.or_eq_true, Bool.and_eq_false_iff, Bool.or_eq_false_iff, beq_iff_eq, bne_iff_ne, beq_eq_false_iff_ne, bne_eq_false_iff_eq, ne_eq, Decidable.not_not, Bool.decide_eq_true] at h2_
      refine aw_region ?_
      refine al_opd rfl rfl rfl (ao_fieldAddr fo_33_0 rfl) ?_
      refine al_opd rfl rfl rfl (ao_load (v := .int _ _) Try.isAgg22 (by rfl) (by exact HLp) (by rfl) (by exact RFp)) ?_
      first | refine al_opd rfl rfl rfl ((ao_add rfl rfl).val (nw_i8 BDp BDp)) ?_ | refine al_opd rfl rfl rfl (ao_add rfl rfl) ?_
      refine al_opd rfl rfl rfl (ao_fieldAddr fo_33_0 rfl) ?_
      refine al_opd rfl rfl rfl ((ao_store1 (v := .int _ _) Try.sizeOf22 (by rfl) (by rfl) (by exact HLp) (by rfl) (by exact LTp)).to (SetR.eq (by exact SRp))) ?_
      refine al_nilB ?_
      refine thenA_n ?_
      refine aw_seq ?_
      refine aw_region ?_
      refine al_opd rfl rfl rfl (ao_loada Try.isAgg33 Try.sizeOf33 rfl (by exact HLp) (by rfl) (by exact RFp)) ?_
      first | refine al_opd rfl rfl rfl ((ao_storeL Try.sizeOf33 (by rfl) (by rfl) (by exact HLp) (by exact RFp) (by exact RFp) (by exact RFp)).to (SetR.eq (by exact SRp))) ?_ | refine al_opd rfl rfl rfl ((ao_storeP (ds := [.int _ _, .int _ _]) Try.sizeOf33 (by rfl) (by rfl) (by exact HLp) (by exact RFp) (by exact RFp) (by exact LTp)).to (SetR.eq (by exact SRp))) ?_
      refine al_nilT ?_
      refine aw_ret ?_
      refine ends1 rfl (rv_cella Try.isAgg33 Try.sizeOf33 rfl (by exact HLp) (by rfl) (by exact RFp)) ?_
      exact ⟨by simp [nextSpot, *], by exact SMp⟩
    · try simp only [decide_eq_true_eq, decide_eq_false_iff_not, Bool.not_eq_true', Bool.not_eq_false', Bool.and_eq_true, Bool.or_eq_true, Bool.and_eq_false_iff, Bool.or_eq_false_iff, beq_iff_eq, bne_iff_ne, beq_eq_false_iff_ne, bne_eq_false_iff_eq, ne_eq, Decidable.not_not, Bool.decide_eq_true] at h2_
      refine aw_seq ?_
      refine aw_region ?_
      refine al_opd rfl rfl rfl (ao_eql rfl rfl) ?_
      refine al_opd rfl rfl rfl (ao_as (v := .bool _) rfl) ?_
      refine al_nilT ?_
      refine aw_cond rfl (fun h3_ => ?_) (fun h3_ => ?_)
      · try simp only [decide_eq_true_eq, decide_eq_false_iff_not, Bool.not_eq_true', Bool.not_eq_false', Bool.and_eq_true, Bool.or_eq_true, Bool.and_eq_false_iff, Bool.or_eq_false_iff, beq_iff_eq, bne_iff_ne, beq_eq_false_iff_ne, bne_eq_false_iff_eq, ne_eq, Decidable.not_not, Bool.decide_eq_true] at h3_
        refine aw_region ?_
        refine al_opd rfl rfl rfl (ao_fieldAddr fo_33_1 rfl) ?_
        refine al_opd rfl rfl rfl (ao_load (v := .int _ _) Try.isAgg22 (by rfl) (by exact HLp) (by rfl) (by exact RFp)) ?_
        first | refine al_opd rfl rfl rfl ((ao_add rfl rfl).val (nw_i8 BDp BDp)) ?_ | refine al_opd rfl rfl rfl (ao_add rfl rfl) ?_
        refine al_opd rfl rfl rfl (ao_fieldAddr fo_33_1 rfl) ?_
        refine al_opd rfl rfl rfl ((ao_store1 (v := .int _ _) Try.sizeOf22 (by rfl) (by rfl) (by exact HLp) (by rfl) (by exact LTp)).to (SetR.eq (by exact SRp))) ?_
        refine al_nilB ?_
        refine thenA_n ?_
        refine aw_seq ?_
        refine aw_region ?_
        refine al_opd rfl rfl rfl (ao_loada Try.isAgg33 Try.sizeOf33 rfl (by exact HLp) (by rfl) (by exact RFp)) ?_
        first | refine al_opd rfl rfl rfl ((ao_storeL Try.sizeOf33 (by rfl) (by rfl) (by exact HLp) (by exact RFp) (by exact RFp) (by exact RFp)).to (SetR.eq (by exact SRp))) ?_ | refine al_opd rfl rfl rfl ((ao_storeP (ds := [.int _ _, .int _ _]) Try.sizeOf33 (by rfl) (by rfl) (by exact HLp) (by exact RFp) (by exact RFp) (by exact LTp)).to (SetR.eq (by exact SRp))) ?_
        refine al_nilT ?_
        refine aw_ret ?_
        refine ends1 rfl (rv_cella Try.isAgg33 Try.sizeOf33 rfl (by exact HLp) (by rfl) (by exact RFp)) ?_
        exact ⟨by simp [nextSpot, *], by exact SMp⟩
      · try simp only [decide_eq_true_eq, decide_eq_false_iff_not, Bool.not_eq_true', Bool.not_eq_false', Bool.and_eq_true, Bool.or_eq_true, Bool.and_eq_false_iff, Bool.or_eq_false_iff, beq_iff_eq, bne_iff_ne, beq_eq_false_iff_ne, bne_eq_false_iff_eq, ne_eq, Decidable.not_not, Bool.decide_eq_true] at h3_
        refine aw_seq ?_
        refine aw_region ?_
        refine al_opd rfl rfl rfl (ao_eql rfl rfl) ?_
        refine al_opd rfl rfl rfl (ao_as (v := .bool _) rfl) ?_
        refine al_nilT ?_
        refine aw_cond rfl (fun h4_ => ?_) (fun h4_ => ?_)
        · try simp only [decide_eq_true_eq, decide_eq_false_iff_not, Bool.not_eq_true', Bool.not_eq_false', Bool.and_eq_true, Bool.or_eq_true, Bool.and_eq_false_iff, Bool.or_eq_false_iff, beq_iff_eq, bne_iff_ne, beq_eq_false_iff_ne, bne_eq_false_iff_eq, ne_eq, Decidable.not_not, Bool.decide_eq_true] at h4_
          refine aw_region ?_
          refine al_opd rfl rfl rfl (ao_fieldAddr fo_33_0 rfl) ?_
          refine al_opd rfl rfl rfl (ao_load (v := .int _ _) Try.isAgg22 (by rfl) (by exact HLp) (by rfl) (by exact RFp)) ?_
          first | refine al_opd rfl rfl rfl ((ao_sub rfl rfl).val (nw_i8 BDp BDp)) ?_ | refine al_opd rfl rfl rfl (ao_sub rfl rfl) ?_
          refine al_opd rfl rfl rfl (ao_fieldAddr fo_33_0 rfl) ?_
          refine al_opd rfl rfl rfl ((ao_store1 (v := .int _ _) Try.sizeOf22 (by rfl) (by rfl) (by exact HLp) (by rfl) (by exact LTp)).to (SetR.eq (by exact SRp))) ?_
          refine al_nilB ?_
          refine thenA_n ?_
          refine aw_seq ?_
          refine aw_region ?_
          refine al_opd rfl rfl rfl (ao_loada Try.isAgg33 Try.sizeOf33 rfl (by exact HLp) (by rfl) (by exact RFp)) ?_
          first | refine al_opd rfl rfl rfl ((ao_storeL Try.sizeOf33 (by rfl) (by rfl) (by exact HLp) (by exact RFp) (by exact RFp) (by exact RFp)).to (SetR.eq (by exact SRp))) ?_ | refine al_opd rfl rfl rfl ((ao_storeP (ds := [.int _ _, .int _ _]) Try.sizeOf33 (by rfl) (by rfl) (by exact HLp) (by exact RFp) (by exact RFp) (by exact LTp)).to (SetR.eq (by exact SRp))) ?_
          refine al_nilT ?_
          refine aw_ret ?_
          refine ends1 rfl (rv_cella Try.isAgg33 Try.sizeOf33 rfl (by exact HLp) (by rfl) (by exact RFp)) ?_
          exact ⟨by simp [nextSpot, *], by exact SMp⟩
        · try simp only [decide_eq_true_eq, decide_eq_false_iff_not, Bool.not_eq_true', Bool.not_eq_false', Bool.and_eq_true, Bool.or_eq_true, Bool.and_eq_false_iff, Bool.or_eq_false_iff, beq_iff_eq, bne_iff_ne, beq_eq_false_iff_ne, bne_eq_false_iff_eq, ne_eq, Decidable.not_not, Bool.decide_eq_true] at h4_
          refine aw_skipB ?_
          refine thenA_n ?_
          refine aw_seq ?_
          refine aw_region ?_
          refine al_opd rfl rfl rfl (ao_loada Try.isAgg33 Try.sizeOf33 rfl (by exact HLp) (by rfl) (by exact RFp)) ?_
          first | refine al_opd rfl rfl rfl ((ao_storeL Try.sizeOf33 (by rfl) (by rfl) (by exact HLp) (by exact RFp) (by exact RFp) (by exact RFp)).to (SetR.eq (by exact SRp))) ?_ | refine al_opd rfl rfl rfl ((ao_storeP (ds := [.int _ _, .int _ _]) Try.sizeOf33 (by rfl) (by rfl) (by exact HLp) (by exact RFp) (by exact RFp) (by exact LTp)).to (SetR.eq (by exact SRp))) ?_
          refine al_nilT ?_
          refine aw_ret ?_
          refine ends1 rfl (rv_cella Try.isAgg33 Try.sizeOf33 rfl (by exact HLp) (by rfl) (by exact RFp)) ?_
          exact ⟨by simp [nextSpot, *], by exact SMp⟩

end Go.Proofs.Ytkjmcolnoehjbaa
