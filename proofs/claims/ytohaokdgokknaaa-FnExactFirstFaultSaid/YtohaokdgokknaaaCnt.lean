/- Contracts of the program's functions over abstract heaps. -/
import Derived.Test.YtohaokdgokknaaaTab
namespace Go.Proofs.Ytohaokdgokknaaa
open Go Go.AW Go.Proofs
set_option linter.unusedVariables false
set_option linter.unusedSimpArgs false
set_option maxRecDepth 100000
set_option maxHeartbeats 2000000

-- spec.l03Next
theorem l03Next_c {s : Said} {w : Int} {H : AHeap} (hs : 0 ≤ s.number ∧ s.number ≤ 4194304 ∧ 0 ≤ s.check ∧ s.check < 97) (hw : 0 ≤ w ∧ w ≤ 999) : ACd Try.prog 103 [.agg #[.int .i64 s.number, .int .i64 s.check], .int .i16 w] H (.agg #[.int .i64 (nextS s w).number, .int .i64 (nextS s w).check]) (H) := by
  refine ac_gc0 (fun β => VR.plainT β (by first | rfl | simp [plainT, plainV, plain1])) (ac_body Try.func103 rfl Try.ntmps103 rfl ?_)
  refine aw_seq ?_
  refine aw_region ?_
  refine al_opd rfl rfl rfl (ao_boxa (by rfl)) ?_
  refine al_opd rfl rfl rfl (ao_alloca (zv101) (by rfl)) ?_
  refine al_nilT ?_
  refine aw_seq ?_
  refine aw_region ?_
  refine al_opd rfl rfl rfl (ao_fieldAddr fo_101_1 rfl) ?_
  refine al_opd rfl rfl rfl (ao_load (v := .int _ _) Try.isAgg2 (by rfl) (by ((repeat (first | exact blk_push_new _ _ | assumption | apply blk_push_old | apply blk_set_same | refine (blk_set_ne (by first | assumption | omega | (simp only [next_push, next_set, next_kill, ne_eq]; omega))).trans ?_ | refine (blk_kill_ne (by first | assumption | omega | (simp only [next_push, next_set, next_kill, ne_eq]; omega))).trans ?_)); (first | done | fail))) (by rfl) (by first | rfl | (simp; (first | done | fail)))) ?_
  first | refine al_opd rfl rfl rfl ((ao_mul rfl rfl).val (nw_i64 (by first | omega | decide) (by first | omega | decide))) ?_ | refine al_opd rfl rfl rfl (ao_mul rfl rfl) ?_
  refine al_opd rfl rfl rfl (ao_mv (v := .int _ _) rfl) ?_
  first | refine al_opd rfl rfl rfl ((ao_conv ⟨_, Try.underlying31⟩ Try.underlying2 rfl).val (nw_i64 (by first | omega | decide) (by first | omega | decide))) ?_ | refine al_opd rfl rfl rfl (ao_conv ⟨_, Try.underlying31⟩ Try.underlying2 rfl) ?_
  first | refine al_opd rfl rfl rfl ((ao_add rfl rfl).val (nw_i64 (by first | omega | decide) (by first | omega | decide))) ?_ | refine al_opd rfl rfl rfl (ao_add rfl rfl) ?_
  first | refine al_opd rfl rfl rfl ((ao_add rfl rfl).val (nw_i64 (by first | omega | decide) (by first | omega | decide))) ?_ | refine al_opd rfl rfl rfl (ao_add rfl rfl) ?_
  refine al_opd rfl rfl rfl ((ao_rem rfl rfl (by decide)).val (v' := .int .i64 ((7 * s.check + w + 1) % 97)) (by rw [Int.tmod_eq_emod_of_nonneg (by omega)])) ?_
  refine al_opd rfl rfl rfl (ao_as (v := .int _ _) rfl) ?_
  refine al_nilT ?_
  refine aw_seq ?_
  refine aw_region ?_
  refine al_opd rfl rfl rfl (ao_fieldAddr fo_101_0 rfl) ?_
  refine al_opd rfl rfl rfl (ao_load (v := .int _ _) Try.isAgg2 (by rfl) (by ((repeat (first | exact blk_push_new _ _ | assumption | apply blk_push_old | apply blk_set_same | refine (blk_set_ne (by first | assumption | omega | (simp only [next_push, next_set, next_kill, ne_eq]; omega))).trans ?_ | refine (blk_kill_ne (by first | assumption | omega | (simp only [next_push, next_set, next_kill, ne_eq]; omega))).trans ?_)); (first | done | fail))) (by rfl) (by first | rfl | (simp; (first | done | fail)))) ?_
  first | refine al_opd rfl rfl rfl ((ao_add rfl rfl).val (nw_i64 (by first | omega | decide) (by first | omega | decide))) ?_ | refine al_opd rfl rfl rfl (ao_add rfl rfl) ?_
  refine al_opd rfl rfl rfl (ao_mv (v := .int _ _) rfl) ?_
  refine al_opd rfl rfl rfl (ao_build (A := #[.int .i64 (s.number + 1), .int .i64 ((7 * s.check + w + 1) % 97)]) Try.zeroValue101 (by rfl) (by first | rfl | kernel_rfl) (by rfl) (by first | rfl | kernel_rfl)) ?_
  first | refine al_opd rfl rfl rfl ((ao_storeL Try.sizeOf101 (by rfl) (by rfl) (by ((repeat (first | exact blk_push_new _ _ | assumption | apply blk_push_old | apply blk_set_same | refine (blk_set_ne (by first | assumption | omega | (simp only [next_push, next_set, next_kill, ne_eq]; omega))).trans ?_ | refine (blk_kill_ne (by first | assumption | omega | (simp only [next_push, next_set, next_kill, ne_eq]; omega))).trans ?_)); (first | done | fail))) (by first | rfl | (simp; (first | done | fail))) (by first | rfl | (simp; (first | done | fail))) (by first | rfl | (simp; (first | done | fail)))).to (SetR.eq (by (repeat (first | exact SetR.new | exact SetR.same | (apply SetR.old; · exact ⟨_, by ((repeat (first | exact blk_push_new _ _ | assumption | apply blk_push_old | apply blk_set_same | refine (blk_set_ne (by first | assumption | omega | (simp only [next_push, next_set, next_kill, ne_eq]; omega))).trans ?_ | refine (blk_kill_ne (by first | assumption | omega | (simp only [next_push, next_set, next_kill, ne_eq]; omega))).trans ?_)); (first | done | fail))⟩) | exact SetR.base))))) ?_ | refine al_opd rfl rfl rfl ((ao_storeP (ds := [.int _ _, .int _ _]) Try.sizeOf101 (by rfl) (by rfl) (by ((repeat (first | exact blk_push_new _ _ | assumption | apply blk_push_old | apply blk_set_same | refine (blk_set_ne (by first | assumption | omega | (simp only [next_push, next_set, next_kill, ne_eq]; omega))).trans ?_ | refine (blk_kill_ne (by first | assumption | omega | (simp only [next_push, next_set, next_kill, ne_eq]; omega))).trans ?_)); (first | done | fail))) (by first | rfl | (simp; (first | done | fail))) (by first | rfl | (simp; (first | done | fail))) (by first | decide | (simp; (first | done | fail)) | (simp; omega))).to (SetR.eq (by (repeat (first | exact SetR.new | exact SetR.same | (apply SetR.old; · exact ⟨_, by ((repeat (first | exact blk_push_new _ _ | assumption | apply blk_push_old | apply blk_set_same | refine (blk_set_ne (by first | assumption | omega | (simp only [next_push, next_set, next_kill, ne_eq]; omega))).trans ?_ | refine (blk_kill_ne (by first | assumption | omega | (simp only [next_push, next_set, next_kill, ne_eq]; omega))).trans ?_)); (first | done | fail))⟩) | exact SetR.base))))) ?_
  refine al_nilT ?_
  refine aw_ret ?_
  refine ends1 rfl (rv_cella Try.isAgg101 Try.sizeOf101 rfl (by ((repeat (first | exact blk_push_new _ _ | assumption | apply blk_push_old | apply blk_set_same | refine (blk_set_ne (by first | assumption | omega | (simp only [next_push, next_set, next_kill, ne_eq]; omega))).trans ?_ | refine (blk_kill_ne (by first | assumption | omega | (simp only [next_push, next_set, next_kill, ne_eq]; omega))).trans ?_)); (first | done | fail))) (by rfl) (by first | rfl | (simp; (first | done | fail)))) ?_
  exact ⟨by first | rfl | (simp [*]; (first | done | fail)), by (repeat (first | exact Same.refl _ _ | assumption | refine Same.push ?_ (by (first | exact Nat.le_refl _ | omega | (simp only [next_push, next_set, next_kill]; omega))) _ | refine Same.set ?_ (by (first | exact Nat.le_refl _ | omega | (simp only [next_push, next_set, next_kill]; omega))) _ | refine Same.kill ?_ (by (first | exact Nat.le_refl _ | omega | (simp only [next_push, next_set, next_kill]; omega)))))⟩

-- (impl.Said).follows
theorem follows_c {s : Said} {x : Hold} {H : AHeap} (hs : 0 ≤ s.number ∧ s.number ≤ 4194304 ∧ 0 ≤ s.check ∧ s.check < 97) (hw : 0 ≤ x.who ∧ x.who ≤ 999) : ACd Try.prog 94 [.agg #[.int .i64 s.number, .int .i64 s.check], .agg #[.int .i16 x.who, .int .i8 x.knot]] H (.agg #[.int .i64 (nextS s x.who).number, .int .i64 (nextS s x.who).check]) (H) := by
  refine ac_gc0 (fun β => VR.plainT β (by first | rfl | simp [plainT, plainV, plain1])) (ac_body Try.func94 rfl Try.ntmps94 rfl ?_)
  refine aw_seq ?_
  refine aw_region ?_
  refine al_opd rfl rfl rfl (ao_boxa (by rfl)) ?_
  refine al_opd rfl rfl rfl (ao_boxa (by rfl)) ?_
  refine al_opd rfl rfl rfl (ao_alloca (zv101) (by rfl)) ?_
  refine al_nilT ?_
  refine aw_seq ?_
  refine aw_region ?_
  refine al_opd rfl rfl rfl (ao_fieldAddr fo_101_1 rfl) ?_
  refine al_opd rfl rfl rfl (ao_load (v := .int _ _) Try.isAgg2 (by rfl) (by ((repeat (first | exact blk_push_new _ _ | assumption | apply blk_push_old | apply blk_set_same | refine (blk_set_ne (by first | assumption | omega | (simp only [next_push, next_set, next_kill, ne_eq]; omega))).trans ?_ | refine (blk_kill_ne (by first | assumption | omega | (simp only [next_push, next_set, next_kill, ne_eq]; omega))).trans ?_)); (first | done | fail))) (by rfl) (by first | rfl | (simp; (first | done | fail)))) ?_
  refine al_opd rfl rfl rfl ((ao_rem rfl rfl (by decide)).val (v' := .int .i64 s.check) (by rw [Int.tmod_eq_emod_of_nonneg (by omega), Int.emod_eq_of_lt (by omega) (by omega)])) ?_
  first | refine al_opd rfl rfl rfl ((ao_mul rfl rfl).val (nw_i64 (by first | omega | decide) (by first | omega | decide))) ?_ | refine al_opd rfl rfl rfl (ao_mul rfl rfl) ?_
  refine al_opd rfl rfl rfl (ao_fieldAddr fo_81_0 rfl) ?_
  refine al_opd rfl rfl rfl (ao_load (v := .int _ _) Try.isAgg31 (by rfl) (by ((repeat (first | exact blk_push_new _ _ | assumption | apply blk_push_old | apply blk_set_same | refine (blk_set_ne (by first | assumption | omega | (simp only [next_push, next_set, next_kill, ne_eq]; omega))).trans ?_ | refine (blk_kill_ne (by first | assumption | omega | (simp only [next_push, next_set, next_kill, ne_eq]; omega))).trans ?_)); (first | done | fail))) (by rfl) (by first | rfl | (simp; (first | done | fail)))) ?_
  first | refine al_opd rfl rfl rfl ((ao_conv ⟨_, Try.underlying31⟩ Try.underlying2 rfl).val (nw_i64 (by first | omega | decide) (by first | omega | decide))) ?_ | refine al_opd rfl rfl rfl (ao_conv ⟨_, Try.underlying31⟩ Try.underlying2 rfl) ?_
  first | refine al_opd rfl rfl rfl ((ao_add rfl rfl).val (nw_i64 (by first | omega | decide) (by first | omega | decide))) ?_ | refine al_opd rfl rfl rfl (ao_add rfl rfl) ?_
  first | refine al_opd rfl rfl rfl ((ao_add rfl rfl).val (nw_i64 (by first | omega | decide) (by first | omega | decide))) ?_ | refine al_opd rfl rfl rfl (ao_add rfl rfl) ?_
  refine al_opd rfl rfl rfl ((ao_rem rfl rfl (by decide)).val (v' := .int .i64 ((7 * s.check + x.who + 1) % 97)) (by rw [Int.tmod_eq_emod_of_nonneg (by omega)])) ?_
  refine al_opd rfl rfl rfl (ao_as (v := .int _ _) rfl) ?_
  refine al_nilT ?_
  refine aw_seq ?_
  refine aw_region ?_
  refine al_opd rfl rfl rfl (ao_fieldAddr fo_101_0 rfl) ?_
  refine al_opd rfl rfl rfl (ao_load (v := .int _ _) Try.isAgg2 (by rfl) (by ((repeat (first | exact blk_push_new _ _ | assumption | apply blk_push_old | apply blk_set_same | refine (blk_set_ne (by first | assumption | omega | (simp only [next_push, next_set, next_kill, ne_eq]; omega))).trans ?_ | refine (blk_kill_ne (by first | assumption | omega | (simp only [next_push, next_set, next_kill, ne_eq]; omega))).trans ?_)); (first | done | fail))) (by rfl) (by first | rfl | (simp; (first | done | fail)))) ?_
  first | refine al_opd rfl rfl rfl ((ao_add rfl rfl).val (nw_i64 (by first | omega | decide) (by first | omega | decide))) ?_ | refine al_opd rfl rfl rfl (ao_add rfl rfl) ?_
  refine al_opd rfl rfl rfl (ao_mv (v := .int _ _) rfl) ?_
  first | refine al_opd rfl rfl rfl ((ao_add rfl rfl).val (nw_i64 (by first | omega | decide) (by first | omega | decide))) ?_ | refine al_opd rfl rfl rfl (ao_add rfl rfl) ?_
  refine al_opd rfl rfl rfl ((ao_rem rfl rfl (by decide)).val (v' := .int .i64 ((7 * s.check + x.who + 1) % 97)) (by rw [Int.tmod_eq_emod_of_nonneg (by omega)]; congr 1; omega)) ?_
  refine al_opd rfl rfl rfl (ao_build (A := #[.int .i64 (s.number + 1), .int .i64 ((7 * s.check + x.who + 1) % 97)]) Try.zeroValue101 (by rfl) (by first | rfl | kernel_rfl) (by rfl) (by first | rfl | kernel_rfl)) ?_
  first | refine al_opd rfl rfl rfl ((ao_storeL Try.sizeOf101 (by rfl) (by rfl) (by ((repeat (first | exact blk_push_new _ _ | assumption | apply blk_push_old | apply blk_set_same | refine (blk_set_ne (by first | assumption | omega | (simp only [next_push, next_set, next_kill, ne_eq]; omega))).trans ?_ | refine (blk_kill_ne (by first | assumption | omega | (simp only [next_push, next_set, next_kill, ne_eq]; omega))).trans ?_)); (first | done | fail))) (by first | rfl | (simp; (first | done | fail))) (by first | rfl | (simp; (first | done | fail))) (by first | rfl | (simp; (first | done | fail)))).to (SetR.eq (by (repeat (first | exact SetR.new | exact SetR.same | (apply SetR.old; · exact ⟨_, by ((repeat (first | exact blk_push_new _ _ | assumption | apply blk_push_old | apply blk_set_same | refine (blk_set_ne (by first | assumption | omega | (simp only [next_push, next_set, next_kill, ne_eq]; omega))).trans ?_ | refine (blk_kill_ne (by first | assumption | omega | (simp only [next_push, next_set, next_kill, ne_eq]; omega))).trans ?_)); (first | done | fail))⟩) | exact SetR.base))))) ?_ | refine al_opd rfl rfl rfl ((ao_storeP (ds := [.int _ _, .int _ _]) Try.sizeOf101 (by rfl) (by rfl) (by ((repeat (first | exact blk_push_new _ _ | assumption | apply blk_push_old | apply blk_set_same | refine (blk_set_ne (by first | assumption | omega | (simp only [next_push, next_set, next_kill, ne_eq]; omega))).trans ?_ | refine (blk_kill_ne (by first | assumption | omega | (simp only [next_push, next_set, next_kill, ne_eq]; omega))).trans ?_)); (first | done | fail))) (by first | rfl | (simp; (first | done | fail))) (by first | rfl | (simp; (first | done | fail))) (by first | decide | (simp; (first | done | fail)) | (simp; omega))).to (SetR.eq (by (repeat (first | exact SetR.new | exact SetR.same | (apply SetR.old; · exact ⟨_, by ((repeat (first | exact blk_push_new _ _ | assumption | apply blk_push_old | apply blk_set_same | refine (blk_set_ne (by first | assumption | omega | (simp only [next_push, next_set, next_kill, ne_eq]; omega))).trans ?_ | refine (blk_kill_ne (by first | assumption | omega | (simp only [next_push, next_set, next_kill, ne_eq]; omega))).trans ?_)); (first | done | fail))⟩) | exact SetR.base))))) ?_
  refine al_nilT ?_
  refine aw_ret ?_
  refine ends1 rfl (rv_cella Try.isAgg101 Try.sizeOf101 rfl (by ((repeat (first | exact blk_push_new _ _ | assumption | apply blk_push_old | apply blk_set_same | refine (blk_set_ne (by first | assumption | omega | (simp only [next_push, next_set, next_kill, ne_eq]; omega))).trans ?_ | refine (blk_kill_ne (by first | assumption | omega | (simp only [next_push, next_set, next_kill, ne_eq]; omega))).trans ?_)); (first | done | fail))) (by rfl) (by first | rfl | (simp; (first | done | fail)))) ?_
  exact ⟨by first | rfl | (simp [*]; (first | done | fail)), by (repeat (first | exact Same.refl _ _ | assumption | refine Same.push ?_ (by (first | exact Nat.le_refl _ | omega | (simp only [next_push, next_set, next_kill]; omega))) _ | refine Same.set ?_ (by (first | exact Nat.le_refl _ | omega | (simp only [next_push, next_set, next_kill]; omega))) _ | refine Same.kill ?_ (by (first | exact Nat.le_refl _ | omega | (simp only [next_push, next_set, next_kill]; omega)))))⟩

-- spec.l03Follows
theorem l03Follows_c {s u : Said} {w : Int} {H : AHeap} (hs : 0 ≤ s.number ∧ s.number ≤ 40 ∧ 0 ≤ s.check ∧ s.check < 97) (hw : 0 ≤ w ∧ w ≤ 999) : ACd Try.prog 92 [.agg #[.int .i64 s.number, .int .i64 s.check], .agg #[.int .i64 u.number, .int .i64 u.check], .int .i16 w] H (.bool (decide (nextS s w = u))) (H) := by
  refine ac_gc0 (fun β => VR.plainT β (by first | rfl | simp [plainT, plainV, plain1])) (ac_body Try.func92 rfl Try.ntmps92 rfl ?_)
  refine aw_seq ?_
  refine aw_region ?_
  refine al_opd rfl rfl rfl (ao_boxa (by rfl)) ?_
  refine al_opd rfl rfl rfl (ao_boxa (by rfl)) ?_
  refine al_opd rfl rfl rfl (ao_as (v := .bool _) rfl) ?_
  refine al_nilT ?_
  refine aw_seq ?_
  refine aw_seq ?_
  refine aw_region ?_
  refine al_opd rfl rfl rfl (ao_fieldAddr fo_101_1 rfl) ?_
  refine al_opd rfl rfl rfl (ao_load (v := .int _ _) Try.isAgg2 (by rfl) (by ((repeat (first | exact blk_push_new _ _ | assumption | apply blk_push_old | apply blk_set_same | refine (blk_set_ne (by first | assumption | omega | (simp only [next_push, next_set, next_kill, ne_eq]; omega))).trans ?_ | refine (blk_kill_ne (by first | assumption | omega | (simp only [next_push, next_set, next_kill, ne_eq]; omega))).trans ?_)); (first | done | fail))) (by rfl) (by first | rfl | (simp; (first | done | fail)))) ?_
  refine al_opd rfl rfl rfl (ao_lss rfl rfl) ?_
  refine al_opd rfl rfl rfl (ao_mv (v := .bool _) rfl) ?_
  refine al_cases (d := 10) rfl (fun h1_ => ?_) (fun h1_ => ?_)
  · try simp only [decide_eq_true_eq, decide_eq_false_iff_not, Bool.not_eq_true', Bool.not_eq_false', Bool.and_eq_true, Bool.or_eq_true, Bool.and_eq_false_iff, Bool.or_eq_false_iff, beq_iff_eq, bne_iff_ne, beq_eq_false_iff_ne, bne_eq_false_iff_eq, ne_eq, Decidable.not_not, Bool.decide_eq_true] at h1_
    first | done | omega | (exfalso; revert h1_; simp; (first | done | omega))
  · try simp only [decide_eq_true_eq, decide_eq_false_iff_not, Bool.not_eq_true', Bool.not_eq_false', Bool.and_eq_true, Bool.or_eq_true, Bool.and_eq_false_iff, Bool.or_eq_false_iff, beq_iff_eq, bne_iff_ne, beq_eq_false_iff_ne, bne_eq_false_iff_eq, ne_eq, Decidable.not_not, Bool.decide_eq_true] at h1_
    refine al_gyes rfl rfl rfl rfl rfl (ao_fieldAddr fo_101_1 rfl) ?_
    refine al_gyes rfl rfl rfl rfl rfl (ao_load (v := .int _ _) Try.isAgg2 (by rfl) (by ((repeat (first | exact blk_push_new _ _ | assumption | apply blk_push_old | apply blk_set_same | refine (blk_set_ne (by first | assumption | omega | (simp only [next_push, next_set, next_kill, ne_eq]; omega))).trans ?_ | refine (blk_kill_ne (by first | assumption | omega | (simp only [next_push, next_set, next_kill, ne_eq]; omega))).trans ?_)); (first | done | fail))) (by rfl) (by first | rfl | (simp; (first | done | fail)))) ?_
    refine al_gyes rfl rfl rfl rfl rfl (ao_geq rfl rfl) ?_
    refine al_opd rfl rfl rfl (ao_pickF rfl (v := .bool _) rfl) ?_
    refine al_opd rfl rfl rfl (ao_mv (v := .bool _) rfl) ?_
    refine al_cases (d := 15) rfl (fun h2_ => ?_) (fun h2_ => ?_)
    · try simp only [decide_eq_true_eq, decide_eq_false_iff_not, Bool.not_eq_true', Bool.not_eq_false', Bool.and_eq_true, Bool.or_eq_true, Bool.and_eq_false_iff, Bool.or_eq_false_iff, beq_iff_eq, bne_iff_ne, beq_eq_false_iff_ne, bne_eq_false_iff_eq, ne_eq, Decidable.not_not, Bool.decide_eq_true] at h2_
      first | done | omega | (exfalso; revert h2_; simp; (first | done | omega))
    · try simp only [decide_eq_true_eq, decide_eq_false_iff_not, Bool.not_eq_true', Bool.not_eq_false', Bool.and_eq_true, Bool.or_eq_true, Bool.and_eq_false_iff, Bool.or_eq_false_iff, beq_iff_eq, bne_iff_ne, beq_eq_false_iff_ne, bne_eq_false_iff_eq, ne_eq, Decidable.not_not, Bool.decide_eq_true] at h2_
      refine al_gyes rfl rfl rfl rfl rfl (ao_fieldAddr fo_101_0 rfl) ?_
      refine al_gyes rfl rfl rfl rfl rfl (ao_load (v := .int _ _) Try.isAgg2 (by rfl) (by ((repeat (first | exact blk_push_new _ _ | assumption | apply blk_push_old | apply blk_set_same | refine (blk_set_ne (by first | assumption | omega | (simp only [next_push, next_set, next_kill, ne_eq]; omega))).trans ?_ | refine (blk_kill_ne (by first | assumption | omega | (simp only [next_push, next_set, next_kill, ne_eq]; omega))).trans ?_)); (first | done | fail))) (by rfl) (by first | rfl | (simp; (first | done | fail)))) ?_
      refine al_gyes rfl rfl rfl rfl rfl (ao_lss rfl rfl) ?_
      refine al_opd rfl rfl rfl (ao_pickF rfl (v := .bool _) rfl) ?_
      refine al_opd rfl rfl rfl (ao_mv (v := .bool _) rfl) ?_
      refine al_cases (d := 20) rfl (fun h3_ => ?_) (fun h3_ => ?_)
      · try simp only [decide_eq_true_eq, decide_eq_false_iff_not, Bool.not_eq_true', Bool.not_eq_false', Bool.and_eq_true, Bool.or_eq_true, Bool.and_eq_false_iff, Bool.or_eq_false_iff, beq_iff_eq, bne_iff_ne, beq_eq_false_iff_ne, bne_eq_false_iff_eq, ne_eq, Decidable.not_not, Bool.decide_eq_true] at h3_
        first | done | omega | (exfalso; revert h3_; simp; (first | done | omega))
      · try simp only [decide_eq_true_eq, decide_eq_false_iff_not, Bool.not_eq_true', Bool.not_eq_false', Bool.and_eq_true, Bool.or_eq_true, Bool.and_eq_false_iff, Bool.or_eq_false_iff, beq_iff_eq, bne_iff_ne, beq_eq_false_iff_ne, bne_eq_false_iff_eq, ne_eq, Decidable.not_not, Bool.decide_eq_true] at h3_
        refine al_gyes rfl rfl rfl rfl rfl (ao_fieldAddr fo_101_0 rfl) ?_
        refine al_gyes rfl rfl rfl rfl rfl (ao_load (v := .int _ _) Try.isAgg2 (by rfl) (by ((repeat (first | exact blk_push_new _ _ | assumption | apply blk_push_old | apply blk_set_same | refine (blk_set_ne (by first | assumption | omega | (simp only [next_push, next_set, next_kill, ne_eq]; omega))).trans ?_ | refine (blk_kill_ne (by first | assumption | omega | (simp only [next_push, next_set, next_kill, ne_eq]; omega))).trans ?_)); (first | done | fail))) (by rfl) (by first | rfl | (simp; (first | done | fail)))) ?_
        refine al_gyes rfl rfl rfl rfl rfl (ao_gtr rfl rfl) ?_
        refine al_opd rfl rfl rfl (ao_pickF rfl (v := .bool _) rfl) ?_
        refine al_nilT ?_
        refine aw_cond rfl (fun h4_ => ?_) (fun h4_ => ?_)
        · try simp only [decide_eq_true_eq, decide_eq_false_iff_not, Bool.not_eq_true', Bool.not_eq_false', Bool.and_eq_true, Bool.or_eq_true, Bool.and_eq_false_iff, Bool.or_eq_false_iff, beq_iff_eq, bne_iff_ne, beq_eq_false_iff_ne, bne_eq_false_iff_eq, ne_eq, Decidable.not_not, Bool.decide_eq_true] at h4_
          first | done | omega | (exfalso; revert h4_; simp; (first | done | omega))
        · try simp only [decide_eq_true_eq, decide_eq_false_iff_not, Bool.not_eq_true', Bool.not_eq_false', Bool.and_eq_true, Bool.or_eq_true, Bool.and_eq_false_iff, Bool.or_eq_false_iff, beq_iff_eq, bne_iff_ne, beq_eq_false_iff_ne, bne_eq_false_iff_eq, ne_eq, Decidable.not_not, Bool.decide_eq_true] at h4_
          refine aw_skipT ?_
          refine aw_seq ?_
          refine aw_draw (m := 6) mo (by kernel_rfl) rfl ?_
          refine dw_opd rfl rfl rfl (ao_loada Try.isAgg101 Try.sizeOf101 rfl (by ((repeat (first | exact blk_push_new _ _ | assumption | apply blk_push_old | apply blk_set_same | refine (blk_set_ne (by first | assumption | omega | (simp only [next_push, next_set, next_kill, ne_eq]; omega))).trans ?_ | refine (blk_kill_ne (by first | assumption | omega | (simp only [next_push, next_set, next_kill, ne_eq]; omega))).trans ?_)); (first | done | fail))) (by rfl) (by first | rfl | (simp; (first | done | fail)))) ?_
          refine dw_opd rfl rfl rfl (ao_mv (v := .int _ _) rfl) ?_
          refine dw_opd rfl rfl rfl (ao_calld (l03Next_c (s := s) (w := w) (by omega) hw) Try.call103 rfl rfl) ?_
          refine dw_opd rfl rfl rfl (ao_loada Try.isAgg101 Try.sizeOf101 rfl (by ((repeat (first | exact blk_push_new _ _ | assumption | apply blk_push_old | apply blk_set_same | refine (blk_set_ne (by first | assumption | omega | (simp only [next_push, next_set, next_kill, ne_eq]; omega))).trans ?_ | refine (blk_kill_ne (by first | assumption | omega | (simp only [next_push, next_set, next_kill, ne_eq]; omega))).trans ?_)); (first | done | fail))) (by rfl) (by first | rfl | (simp; (first | done | fail)))) ?_
          refine dw_opd rfl rfl rfl (ao_eqV Try.eqGuardType101 rfl rfl rfl rfl (eqS101 _ _ _ _)) ?_
          refine dw_opd rfl rfl rfl (ao_as (v := .bool _) rfl) ?_
          refine dw_end ?_
          refine al_nilT ?_
          refine aw_ret ?_
          refine ends1 rfl (rv_tmp (v := .bool _) rfl) ?_
          exact ⟨congrArg Value.bool (said_eq _ _), by (repeat (first | exact Same.refl _ _ | assumption | refine Same.push ?_ (by (first | exact Nat.le_refl _ | omega | (simp only [next_push, next_set, next_kill]; omega))) _ | refine Same.set ?_ (by (first | exact Nat.le_refl _ | omega | (simp only [next_push, next_set, next_kill]; omega))) _ | refine Same.kill ?_ (by (first | exact Nat.le_refl _ | omega | (simp only [next_push, next_set, next_kill]; omega)))))⟩

-- spec.l03Count
theorem l03Count_c {w : Value} {hs : List Hold} {H : AHeap} (hh0 : Sl H hold 2 w hs) (hn : hs.length ≤ 4194304) (hq : ∀ (i : Nat) x, hs[i]? = some x → 0 ≤ x.who ∧ x.who ≤ 999) : ACd Try.prog 96 [w] H (.slice (some ⟨H.next, 0, none⟩) (counts hs).length ((counts hs).length + 1)) (H.push (.cells (fl said (counts hs)) 2)) := by
  have hcl := counts_len hs
  refine ac_gcs (vrl_fl said_plain (counts hs)) (ac_body Try.func96 rfl Try.ntmps96 rfl ?_)
  refine aw_seq ?_
  refine aw_region ?_
  first | refine al_opd rfl rfl rfl (ao_as (v := .slice _ _ _) rfl) ?_ | refine al_opd rfl rfl rfl (ao_as (v := w) rfl) ?_
  refine al_nilT ?_
  refine aw_seq ?_
  refine aw_region ?_
  refine al_opd rfl rfl rfl (ao_lit0 Try.underlying67 Try.sizeOf101 Try.zeroValue101 (by rfl) (by rfl) rfl) ?_
  first | refine al_opd rfl rfl rfl (ao_as (v := .slice _ _ _) rfl) ?_ | refine al_opd rfl rfl rfl (ao_as (v := w) rfl) ?_
  refine al_nilT ?_
  refine aw_seq ?_
  refine aw_region ?_
  refine al_opd rfl rfl rfl (ao_build (A := #[.int _ _, .int _ _]) Try.zeroValue101 (by rfl) (by first | rfl | kernel_rfl) (by rfl) (by first | rfl | kernel_rfl)) ?_
  refine al_opd rfl rfl rfl (ao_alloca (zv101) (by rfl)) ?_
  first | refine al_opd rfl rfl rfl ((ao_storeL Try.sizeOf101 (by rfl) (by rfl) (by ((repeat (first | exact blk_push_new _ _ | assumption | apply blk_push_old | apply blk_set_same | refine (blk_set_ne (by first | assumption | omega | (simp only [next_push, next_set, next_kill, ne_eq]; omega))).trans ?_ | refine (blk_kill_ne (by first | assumption | omega | (simp only [next_push, next_set, next_kill, ne_eq]; omega))).trans ?_)); (first | done | fail))) (by first | rfl | (simp; (first | done | fail))) (by first | rfl | (simp; (first | done | fail))) (by first | rfl | (simp; (first | done | fail)))).to (SetR.eq (by (repeat (first | exact SetR.new | exact SetR.same | (apply SetR.old; · exact ⟨_, by ((repeat (first | exact blk_push_new _ _ | assumption | apply blk_push_old | apply blk_set_same | refine (blk_set_ne (by first | assumption | omega | (simp only [next_push, next_set, next_kill, ne_eq]; omega))).trans ?_ | refine (blk_kill_ne (by first | assumption | omega | (simp only [next_push, next_set, next_kill, ne_eq]; omega))).trans ?_)); (first | done | fail))⟩) | exact SetR.base))))) ?_ | refine al_opd rfl rfl rfl ((ao_storeP (ds := [.int _ _, .int _ _]) Try.sizeOf101 (by rfl) (by rfl) (by ((repeat (first | exact blk_push_new _ _ | assumption | apply blk_push_old | apply blk_set_same | refine (blk_set_ne (by first | assumption | omega | (simp only [next_push, next_set, next_kill, ne_eq]; omega))).trans ?_ | refine (blk_kill_ne (by first | assumption | omega | (simp only [next_push, next_set, next_kill, ne_eq]; omega))).trans ?_)); (first | done | fail))) (by first | rfl | (simp; (first | done | fail))) (by first | rfl | (simp; (first | done | fail))) (by first | decide | (simp; (first | done | fail)) | (simp; omega))).to (SetR.eq (by (repeat (first | exact SetR.new | exact SetR.same | (apply SetR.old; · exact ⟨_, by ((repeat (first | exact blk_push_new _ _ | assumption | apply blk_push_old | apply blk_set_same | refine (blk_set_ne (by first | assumption | omega | (simp only [next_push, next_set, next_kill, ne_eq]; omega))).trans ?_ | refine (blk_kill_ne (by first | assumption | omega | (simp only [next_push, next_set, next_kill, ne_eq]; omega))).trans ?_)); (first | done | fail))⟩) | exact SetR.base))))) ?_
  refine al_nilT ?_
  refine aw_seq ?_
  refine aw_seq ?_
  refine aw_region ?_
  refine al_opd rfl rfl rfl (ao_as (v := .int _ _) rfl) ?_
  refine al_nilT ?_
  refine aw_block ?_
  refine aw_loop (fun (gk : Nat) (fr : AFr) (G : AHeap) => ∃ get : Nat → Value, fr = ⟨26, get⟩ ∧ (∃ (k pb c' : Nat), k ≤ hs.length ∧ gk = hs.length - k ∧ (pb = H.next ∨ H.next + 2 ≤ pb) ∧ Same H.next H G ∧ H.next + 2 ≤ G.next ∧ G.blk (H.next + 1) = some (.cells [.int .i64 (countS hs k).number, .int .i64 (countS hs k).check] 1) ∧ G.blk pb = some (.cells (fl said ((counts hs).take k)) 2) ∧ k ≤ c' ∧ get 0 = w ∧ get 3 = .slice (some ⟨pb, 0, none⟩) k c' ∧ get 4 = .pointer (some ⟨H.next + 1, 0, none⟩) ∧ get 5 = .int .i64 k)) (hs.length) ⟨_, rfl, ?_⟩ ?_
  · exact ⟨0, _, _, Nat.zero_le _, rfl, .inl rfl, by (repeat (first | exact Same.refl _ _ | assumption | refine Same.push ?_ (by (first | exact Nat.le_refl _ | omega | (simp only [next_push, next_set, next_kill]; omega))) _ | refine Same.set ?_ (by (first | exact Nat.le_refl _ | omega | (simp only [next_push, next_set, next_kill]; omega))) _ | refine Same.kill ?_ (by (first | exact Nat.le_refl _ | omega | (simp only [next_push, next_set, next_kill]; omega))))), by (first | exact Nat.le_refl _ | omega | (simp only [next_push, next_set, next_kill]; omega)), by ((repeat (first | exact blk_push_new _ _ | assumption | apply blk_push_old | apply blk_set_same | refine (blk_set_ne (by first | assumption | omega | (simp only [next_push, next_set, next_kill, ne_eq]; omega))).trans ?_ | refine (blk_kill_ne (by first | assumption | omega | (simp only [next_push, next_set, next_kill, ne_eq]; omega))).trans ?_)); (first | done | fail)), by ((repeat (first | exact blk_push_new _ _ | assumption | apply blk_push_old | apply blk_set_same | refine (blk_set_ne (by first | assumption | omega | (simp only [next_push, next_set, next_kill, ne_eq]; omega))).trans ?_ | refine (blk_kill_ne (by first | assumption | omega | (simp only [next_push, next_set, next_kill, ne_eq]; omega))).trans ?_)); (first | done | fail)), Nat.le_refl _, rfl, rfl, rfl, rfl⟩
  · rintro gk fr G ⟨get, rfl, k, pb, c', hk, rfl, hpb, hG, hnx, hkc, hkb, hc, g0, g3, g4, g5⟩
    have hh : Sl G hold 2 w hs := hh0.mono hG
    have hlt := AHeap.lt hkb
    refine aw_slot (d := 0) (v := w) (by first | assumption | rfl) ?_
    refine aw_slot (d := 3) (v := .slice (some ⟨pb, 0, none⟩) k c') (by first | assumption | rfl) ?_
    refine aw_slot (d := 4) (v := .pointer (some ⟨H.next + 1, 0, none⟩)) (by first | assumption | rfl) ?_
    refine aw_slot (d := 5) (v := .int .i64 k) (by first | assumption | rfl) ?_
    refine aw_seq ?_
    refine aw_seq ?_
    refine aw_region ?_
    refine al_opd rfl rfl rfl (ao_mv (v := .int _ _) rfl) ?_
    first | refine al_opd rfl rfl rfl (ao_mv (v := .slice _ _ _) rfl) ?_ | refine al_opd rfl rfl rfl (ao_mv (v := w) rfl) ?_
    first | refine al_opd rfl rfl rfl (ao_lenS Try.underlying28 (by rfl)) ?_ | refine al_opd rfl rfl rfl (ao_lenN Try.underlying28 (by rfl)) ?_ | refine al_opd rfl rfl rfl (ao_lenV Try.underlying28 rfl hh) ?_
    refine al_opd rfl rfl rfl (ao_lss rfl rfl) ?_
    refine al_nilT ?_
    refine aw_cond rfl (fun h1_ => ?_) (fun h1_ => ?_)
    · try simp only [decide_eq_true_eq, decide_eq_false_iff_not, Bool.not_eq_true', Bool.not_eq_false', Bool.and_eq_true, Bool.or_eq_true, Bool.and_eq_false_iff, Bool.or_eq_false_iff, beq_iff_eq, bne_iff_ne, beq_eq_false_iff_ne, bne_eq_false_iff_eq, ne_eq, Decidable.not_not, Bool.decide_eq_true] at h1_
      obtain ⟨x, hx⟩ := get_lt (show k < hs.length by omega)
      have hb := countS_bnd hs k (by omega)
      have hwx := hq k x hx
      refine aw_skipT ?_
      refine aw_seq ?_
      refine aw_block ?_
      refine aw_seq ?_
      refine aw_draw (m := 7) mo (by kernel_rfl) rfl ?_
      first | refine dw_opd rfl rfl rfl (ao_loada Try.isAgg101 Try.sizeOf101 rfl (by ((repeat (first | exact blk_push_new _ _ | assumption | apply blk_push_old | apply blk_set_same | refine (blk_set_ne (by first | assumption | omega | (simp only [next_push, next_set, next_kill, ne_eq]; omega))).trans ?_ | refine (blk_kill_ne (by first | assumption | omega | (simp only [next_push, next_set, next_kill, ne_eq]; omega))).trans ?_)); (first | done | fail))) (by rfl) (by first | rfl | (simp; (first | done | fail)))) ?_ | refine dw_opd rfl rfl rfl (ao_loadsV (A := #[.int _ _, .int _ _]) Try.isAgg101 Try.sizeOf101 hh rfl hx rfl (by decide)) ?_
      first | refine dw_opd rfl rfl rfl (ao_mv (v := .slice _ _ _) rfl) ?_ | refine dw_opd rfl rfl rfl (ao_mv (v := w) rfl) ?_
      refine dw_opd rfl rfl rfl (ao_mv (v := .int _ _) rfl) ?_
      first | refine dw_opd rfl rfl rfl (ao_indexAddrS Try.underlying28 Try.sizeOf81 rfl rfl (by first | omega | decide | (simp; omega)) (by first | omega | decide | (simp; omega))) ?_ | refine dw_opd rfl rfl rfl (ao_indexV Try.underlying28 Try.sizeOf81 rfl rfl hh (by first | omega | decide | (simp; omega)) (by first | omega | decide | (simp; omega))) ?_
      refine dw_opd rfl rfl rfl (ao_fieldAddr fo_81_0 rfl) ?_
      first | refine dw_opd rfl rfl rfl (ao_load (v := .int _ _) Try.isAgg31 (by rfl) (by ((repeat (first | exact blk_push_new _ _ | assumption | apply blk_push_old | apply blk_set_same | refine (blk_set_ne (by first | assumption | omega | (simp only [next_push, next_set, next_kill, ne_eq]; omega))).trans ?_ | refine (blk_kill_ne (by first | assumption | omega | (simp only [next_push, next_set, next_kill, ne_eq]; omega))).trans ?_)); (first | done | fail))) (by rfl) (by first | rfl | (simp; (first | done | fail)))) ?_ | refine dw_opd rfl rfl rfl (ao_loadV (j := 0) (u := .int _ _) Try.isAgg31 hh rfl rfl hx rfl) ?_ | refine dw_opd rfl rfl rfl (ao_loadV (j := 1) (u := .int _ _) Try.isAgg31 hh rfl rfl hx rfl) ?_
      refine dw_opd rfl rfl rfl (ao_calld (l03Next_c (s := countS hs k) (w := x.who) hb hwx) Try.call103 rfl rfl) ?_
      refine dw_end ?_
      first | refine al_opd rfl rfl rfl ((ao_storeL Try.sizeOf101 (by rfl) (by rfl) (by ((repeat (first | exact blk_push_new _ _ | assumption | apply blk_push_old | apply blk_set_same | refine (blk_set_ne (by first | assumption | omega | (simp only [next_push, next_set, next_kill, ne_eq]; omega))).trans ?_ | refine (blk_kill_ne (by first | assumption | omega | (simp only [next_push, next_set, next_kill, ne_eq]; omega))).trans ?_)); (first | done | fail))) (by first | rfl | (simp; (first | done | fail))) (by first | rfl | (simp; (first | done | fail))) (by first | rfl | (simp; (first | done | fail)))).to (SetR.eq (by (repeat (first | exact SetR.new | exact SetR.same | (apply SetR.old; · exact ⟨_, by ((repeat (first | exact blk_push_new _ _ | assumption | apply blk_push_old | apply blk_set_same | refine (blk_set_ne (by first | assumption | omega | (simp only [next_push, next_set, next_kill, ne_eq]; omega))).trans ?_ | refine (blk_kill_ne (by first | assumption | omega | (simp only [next_push, next_set, next_kill, ne_eq]; omega))).trans ?_)); (first | done | fail))⟩) | exact SetR.base))))) ?_ | refine al_opd rfl rfl rfl ((ao_storeP (ds := [.int _ _, .int _ _]) Try.sizeOf101 (by rfl) (by rfl) (by ((repeat (first | exact blk_push_new _ _ | assumption | apply blk_push_old | apply blk_set_same | refine (blk_set_ne (by first | assumption | omega | (simp only [next_push, next_set, next_kill, ne_eq]; omega))).trans ?_ | refine (blk_kill_ne (by first | assumption | omega | (simp only [next_push, next_set, next_kill, ne_eq]; omega))).trans ?_)); (first | done | fail))) (by first | rfl | (simp; (first | done | fail))) (by first | rfl | (simp; (first | done | fail))) (by first | decide | (simp; (first | done | fail)) | (simp; omega))).to (SetR.eq (by (repeat (first | exact SetR.new | exact SetR.same | (apply SetR.old; · exact ⟨_, by ((repeat (first | exact blk_push_new _ _ | assumption | apply blk_push_old | apply blk_set_same | refine (blk_set_ne (by first | assumption | omega | (simp only [next_push, next_set, next_kill, ne_eq]; omega))).trans ?_ | refine (blk_kill_ne (by first | assumption | omega | (simp only [next_push, next_set, next_kill, ne_eq]; omega))).trans ?_)); (first | done | fail))⟩) | exact SetR.base))))) ?_
      refine al_nilT ?_
      refine aw_region ?_
      first | refine al_opd rfl rfl rfl (ao_mv (v := .slice _ _ _) rfl) ?_ | refine al_opd rfl rfl rfl (ao_mv (v := w) rfl) ?_
      first | refine al_opd rfl rfl rfl (ao_loada Try.isAgg101 Try.sizeOf101 rfl (by ((repeat (first | exact blk_push_new _ _ | assumption | apply blk_push_old | apply blk_set_same | refine (blk_set_ne (by first | assumption | omega | (simp only [next_push, next_set, next_kill, ne_eq]; omega))).trans ?_ | refine (blk_kill_ne (by first | assumption | omega | (simp only [next_push, next_set, next_kill, ne_eq]; omega))).trans ?_)); (first | done | fail))) (by rfl) (by first | rfl | (simp; (first | done | fail)))) ?_ | refine al_opd rfl rfl rfl (ao_loadsV (A := #[.int _ _, .int _ _]) Try.isAgg101 Try.sizeOf101 hh rfl hx rfl (by decide)) ?_
      refine al_opd rfl rfl rfl (ao_lit1 (v := .agg _) Try.underlying67 Try.sizeOf101 Try.zeroValue101 (by rfl) (by rfl) rfl rfl (by rfl) (by first | rfl | (simp; (first | done | fail)))) ?_
      refine al_opd rfl rfl rfl (ao_appC Try.underlying67 ⟨_, Try.underlying67⟩ elem101 (by rfl) (by rfl) (by ((repeat (first | exact blk_push_new _ _ | assumption | apply blk_push_old | apply blk_set_same | refine (blk_set_ne (by first | assumption | omega | (simp only [next_push, next_set, next_kill, ne_eq]; omega))).trans ?_ | refine (blk_kill_ne (by first | assumption | omega | (simp only [next_push, next_set, next_kill, ne_eq]; omega))).trans ?_)); (first | done | fail))) (by (rw [fl_len said_len, List.length_take]; omega)) (by first | exact src_all (by ((repeat (first | exact blk_push_new _ _ | assumption | apply blk_push_old | apply blk_set_same | refine (blk_set_ne (by first | assumption | omega | (simp only [next_push, next_set, next_kill, ne_eq]; omega))).trans ?_ | refine (blk_kill_ne (by first | assumption | omega | (simp only [next_push, next_set, next_kill, ne_eq]; omega))).trans ?_)); (first | done | fail))) (by rfl) (by rfl) | exact src_all (by ((repeat (first | exact blk_push_new _ _ | assumption | apply blk_push_old | apply blk_set_same | refine (blk_set_ne (by first | assumption | omega | (simp only [next_push, next_set, next_kill, ne_eq]; omega))).trans ?_ | refine (blk_kill_ne (by first | assumption | omega | (simp only [next_push, next_set, next_kill, ne_eq]; omega))).trans ?_)); (first | done | fail))) (by rfl) (by simp)) (by first | rfl | simp [isOne]) (by first | omega | decide) (by first | omega | decide)) ?_
      first | refine al_opd rfl rfl rfl (ao_as (v := .slice _ _ _) rfl) ?_ | refine al_opd rfl rfl rfl (ao_as (v := w) rfl) ?_
      refine al_nilB ?_
      refine thenA_n ?_
      refine aw_region ?_
      refine al_opd rfl rfl rfl (ao_mv (v := .int _ _) rfl) ?_
      first | refine al_opd rfl rfl rfl ((ao_add rfl rfl).val (nw_i64 (by first | omega | decide) (by first | omega | decide))) ?_ | refine al_opd rfl rfl rfl (ao_add rfl rfl) ?_
      refine al_opd rfl rfl rfl (ao_as (v := .int _ _) rfl) ?_
      refine al_nilT ?_
      refine ⟨_, ?_, _, rfl, k + 1, _, _, by omega, rfl, .inr (by (first | exact Nat.le_refl _ | omega | (simp only [next_push, next_set, next_kill]; omega))), by (repeat (first | exact Same.refl _ _ | assumption | refine Same.push ?_ (by (first | exact Nat.le_refl _ | omega | (simp only [next_push, next_set, next_kill]; omega))) _ | refine Same.set ?_ (by (first | exact Nat.le_refl _ | omega | (simp only [next_push, next_set, next_kill]; omega))) _ | refine Same.kill ?_ (by (first | exact Nat.le_refl _ | omega | (simp only [next_push, next_set, next_kill]; omega))))), by (first | exact Nat.le_refl _ | omega | (simp only [next_push, next_set, next_kill]; omega)), ?_, ?_, by omega, rfl, rfl, rfl, by rfl⟩
      · omega
      · rw [← countS_at hx]; exact (by ((repeat (first | exact blk_push_new _ _ | assumption | apply blk_push_old | apply blk_set_same | refine (blk_set_ne (by first | assumption | omega | (simp only [next_push, next_set, next_kill, ne_eq]; omega))).trans ?_ | refine (blk_kill_ne (by first | assumption | omega | (simp only [next_push, next_set, next_kill, ne_eq]; omega))).trans ?_)); (first | done | fail)))
      · rw [← app_snoc (e := said) (counts_at (show k < hs.length by omega)), ← countS_at hx]; exact blk_push_new _ _
    · try simp only [decide_eq_true_eq, decide_eq_false_iff_not, Bool.not_eq_true', Bool.not_eq_false', Bool.and_eq_true, Bool.or_eq_true, Bool.and_eq_false_iff, Bool.or_eq_false_iff, beq_iff_eq, bne_iff_ne, beq_eq_false_iff_ne, bne_eq_false_iff_eq, ne_eq, Decidable.not_not, Bool.decide_eq_true] at h1_
      refine aw_exit ?_
      refine thenA_x ?_
      refine thenA_x ?_
      refine blockA_hit ?_
      refine thenA_n ?_
      refine aw_seq ?_
      refine aw_region ?_
      first | refine al_opd rfl rfl rfl (ao_mv (v := .slice _ _ _) rfl) ?_ | refine al_opd rfl rfl rfl (ao_mv (v := w) rfl) ?_
      first | refine al_opd rfl rfl rfl (ao_as (v := .slice _ _ _) rfl) ?_ | refine al_opd rfl rfl rfl (ao_as (v := w) rfl) ?_
      refine al_nilT ?_
      refine aw_ret ?_
      refine ends1 rfl (rv_tmp (v := .slice _ _ _) rfl) ?_
      rw [List.take_of_length_le (by omega)] at hkb
      obtain rfl : k = (counts hs).length := by omega
      exact ⟨hG, pb, by omega, hkb, fun ρ h => vr_sl h (by omega) (by omega)⟩

-- impl.count
theorem implCount_c {w : Value} {hs : List Hold} {H : AHeap} (hh0 : Sl H hold 2 w hs) (hn : hs.length ≤ 4194304) (hq : ∀ (i : Nat) x, hs[i]? = some x → 0 ≤ x.who ∧ x.who ≤ 999) : ACd Try.prog 97 [w] H (.slice (some ⟨H.next, 0, none⟩) (counts hs).length ((counts hs).length + 1)) (H.push (.cells (fl said (counts hs)) 2)) := by
  have hcl := counts_len hs
  refine ac_gcs (vrl_fl said_plain (counts hs)) (ac_body Try.func97 rfl Try.ntmps97 rfl ?_)
  refine aw_seq ?_
  refine aw_region ?_
  first | refine al_opd rfl rfl rfl (ao_as (v := .slice _ _ _) rfl) ?_ | refine al_opd rfl rfl rfl (ao_as (v := w) rfl) ?_
  refine al_nilT ?_
  refine aw_seq ?_
  refine aw_region ?_
  refine al_opd rfl rfl rfl (ao_lit0 Try.underlying67 Try.sizeOf101 Try.zeroValue101 (by rfl) (by rfl) rfl) ?_
  refine al_opd rfl rfl rfl (ao_build (A := #[.int _ _, .int _ _]) Try.zeroValue101 (by rfl) (by first | rfl | kernel_rfl) (by rfl) (by first | rfl | kernel_rfl)) ?_
  refine al_opd rfl rfl rfl (ao_alloca (zv101) (by rfl)) ?_
  first | refine al_opd rfl rfl rfl (ao_as (v := .slice _ _ _) rfl) ?_ | refine al_opd rfl rfl rfl (ao_as (v := w) rfl) ?_
  first | refine al_opd rfl rfl rfl ((ao_storeL Try.sizeOf101 (by rfl) (by rfl) (by ((repeat (first | exact blk_push_new _ _ | assumption | apply blk_push_old | apply blk_set_same | refine (blk_set_ne (by first | assumption | omega | (simp only [next_push, next_set, next_kill, ne_eq]; omega))).trans ?_ | refine (blk_kill_ne (by first | assumption | omega | (simp only [next_push, next_set, next_kill, ne_eq]; omega))).trans ?_)); (first | done | fail))) (by first | rfl | (simp; (first | done | fail))) (by first | rfl | (simp; (first | done | fail))) (by first | rfl | (simp; (first | done | fail)))).to (SetR.eq (by (repeat (first | exact SetR.new | exact SetR.same | (apply SetR.old; · exact ⟨_, by ((repeat (first | exact blk_push_new _ _ | assumption | apply blk_push_old | apply blk_set_same | refine (blk_set_ne (by first | assumption | omega | (simp only [next_push, next_set, next_kill, ne_eq]; omega))).trans ?_ | refine (blk_kill_ne (by first | assumption | omega | (simp only [next_push, next_set, next_kill, ne_eq]; omega))).trans ?_)); (first | done | fail))⟩) | exact SetR.base))))) ?_ | refine al_opd rfl rfl rfl ((ao_storeP (ds := [.int _ _, .int _ _]) Try.sizeOf101 (by rfl) (by rfl) (by ((repeat (first | exact blk_push_new _ _ | assumption | apply blk_push_old | apply blk_set_same | refine (blk_set_ne (by first | assumption | omega | (simp only [next_push, next_set, next_kill, ne_eq]; omega))).trans ?_ | refine (blk_kill_ne (by first | assumption | omega | (simp only [next_push, next_set, next_kill, ne_eq]; omega))).trans ?_)); (first | done | fail))) (by first | rfl | (simp; (first | done | fail))) (by first | rfl | (simp; (first | done | fail))) (by first | decide | (simp; (first | done | fail)) | (simp; omega))).to (SetR.eq (by (repeat (first | exact SetR.new | exact SetR.same | (apply SetR.old; · exact ⟨_, by ((repeat (first | exact blk_push_new _ _ | assumption | apply blk_push_old | apply blk_set_same | refine (blk_set_ne (by first | assumption | omega | (simp only [next_push, next_set, next_kill, ne_eq]; omega))).trans ?_ | refine (blk_kill_ne (by first | assumption | omega | (simp only [next_push, next_set, next_kill, ne_eq]; omega))).trans ?_)); (first | done | fail))⟩) | exact SetR.base))))) ?_
  refine al_nilT ?_
  refine aw_seq ?_
  refine aw_seq ?_
  refine aw_region ?_
  first | refine al_opd rfl rfl rfl (ao_mv (v := .slice _ _ _) rfl) ?_ | refine al_opd rfl rfl rfl (ao_mv (v := w) rfl) ?_
  refine al_opd rfl rfl rfl (ao_lenV Try.underlying28 rfl (hh0.mono (by (repeat (first | exact Same.refl _ _ | assumption | refine Same.push ?_ (by (first | exact Nat.le_refl _ | omega | (simp only [next_push, next_set, next_kill]; omega))) _ | refine Same.set ?_ (by (first | exact Nat.le_refl _ | omega | (simp only [next_push, next_set, next_kill]; omega))) _ | refine Same.kill ?_ (by (first | exact Nat.le_refl _ | omega | (simp only [next_push, next_set, next_kill]; omega)))))))) ?_
  refine al_opd rfl rfl rfl (ao_mv (v := .int _ _) rfl) ?_
  refine al_nilT ?_
  refine aw_block ?_
  refine aw_loop (fun (gk : Nat) (fr : AFr) (G : AHeap) => ∃ get : Nat → Value, fr = ⟨24, get⟩ ∧ (∃ (k pb c' : Nat), k ≤ hs.length ∧ gk = hs.length - k ∧ (pb = H.next ∨ H.next + 2 ≤ pb) ∧ Same H.next H G ∧ H.next + 2 ≤ G.next ∧ G.blk (H.next + 1) = some (.cells [.int .i64 (countS hs k).number, .int .i64 (countS hs k).check] 1) ∧ G.blk pb = some (.cells (fl said ((counts hs).take k)) 2) ∧ k ≤ c' ∧ get 9 = w ∧ get 3 = .slice (some ⟨pb, 0, none⟩) k c' ∧ get 4 = .pointer (some ⟨H.next + 1, 0, none⟩) ∧ get 11 = .int .i64 k ∧ get 10 = .int .i64 hs.length)) (hs.length) ⟨_, rfl, ?_⟩ ?_
  · exact ⟨0, _, _, Nat.zero_le _, rfl, .inl rfl, by (repeat (first | exact Same.refl _ _ | assumption | refine Same.push ?_ (by (first | exact Nat.le_refl _ | omega | (simp only [next_push, next_set, next_kill]; omega))) _ | refine Same.set ?_ (by (first | exact Nat.le_refl _ | omega | (simp only [next_push, next_set, next_kill]; omega))) _ | refine Same.kill ?_ (by (first | exact Nat.le_refl _ | omega | (simp only [next_push, next_set, next_kill]; omega))))), by (first | exact Nat.le_refl _ | omega | (simp only [next_push, next_set, next_kill]; omega)), by ((repeat (first | exact blk_push_new _ _ | assumption | apply blk_push_old | apply blk_set_same | refine (blk_set_ne (by first | assumption | omega | (simp only [next_push, next_set, next_kill, ne_eq]; omega))).trans ?_ | refine (blk_kill_ne (by first | assumption | omega | (simp only [next_push, next_set, next_kill, ne_eq]; omega))).trans ?_)); (first | done | fail)), by ((repeat (first | exact blk_push_new _ _ | assumption | apply blk_push_old | apply blk_set_same | refine (blk_set_ne (by first | assumption | omega | (simp only [next_push, next_set, next_kill, ne_eq]; omega))).trans ?_ | refine (blk_kill_ne (by first | assumption | omega | (simp only [next_push, next_set, next_kill, ne_eq]; omega))).trans ?_)); (first | done | fail)), Nat.le_refl _, rfl, rfl, rfl, rfl, rfl⟩
  · rintro gk fr G ⟨get, rfl, k, pb, c', hk, rfl, hpb, hG, hnx, hkc, hkb, hc, g0, g3, g4, g5, g6⟩
    have hh : Sl G hold 2 w hs := hh0.mono hG
    have hlt := AHeap.lt hkb
    refine aw_slot (d := 9) (v := w) (by first | assumption | rfl) ?_
    refine aw_slot (d := 3) (v := .slice (some ⟨pb, 0, none⟩) k c') (by first | assumption | rfl) ?_
    refine aw_slot (d := 4) (v := .pointer (some ⟨H.next + 1, 0, none⟩)) (by first | assumption | rfl) ?_
    refine aw_slot (d := 11) (v := .int .i64 k) (by first | assumption | rfl) ?_
    refine aw_slot (d := 10) (v := .int .i64 hs.length) (by first | assumption | rfl) ?_
    refine aw_seq ?_
    refine aw_region ?_
    refine al_opd rfl rfl rfl (ao_lss rfl rfl) ?_
    refine al_nilT ?_
    refine aw_seq ?_
    refine aw_cond rfl (fun h1_ => ?_) (fun h1_ => ?_)
    · try simp only [decide_eq_true_eq, decide_eq_false_iff_not, Bool.not_eq_true', Bool.not_eq_false', Bool.and_eq_true, Bool.or_eq_true, Bool.and_eq_false_iff, Bool.or_eq_false_iff, beq_iff_eq, bne_iff_ne, beq_eq_false_iff_ne, bne_eq_false_iff_eq, ne_eq, Decidable.not_not, Bool.decide_eq_true] at h1_
      obtain ⟨x, hx⟩ := get_lt (show k < hs.length by omega)
      have hb := countS_bnd hs k (by omega)
      have hwx := hq k x hx
      refine aw_skipT ?_
      refine aw_seq ?_
      refine aw_block ?_
      refine aw_seq ?_
      refine aw_region ?_
      first | refine al_opd rfl rfl rfl (ao_indexAddrS Try.underlying28 Try.sizeOf81 rfl rfl (by first | omega | decide | (simp; omega)) (by first | omega | decide | (simp; omega))) ?_ | refine al_opd rfl rfl rfl (ao_indexV Try.underlying28 Try.sizeOf81 rfl rfl hh (by first | omega | decide | (simp; omega)) (by first | omega | decide | (simp; omega))) ?_
      first | refine al_opd rfl rfl rfl (ao_loada Try.isAgg81 Try.sizeOf81 rfl (by ((repeat (first | exact blk_push_new _ _ | assumption | apply blk_push_old | apply blk_set_same | refine (blk_set_ne (by first | assumption | omega | (simp only [next_push, next_set, next_kill, ne_eq]; omega))).trans ?_ | refine (blk_kill_ne (by first | assumption | omega | (simp only [next_push, next_set, next_kill, ne_eq]; omega))).trans ?_)); (first | done | fail))) (by rfl) (by first | rfl | (simp; (first | done | fail)))) ?_ | refine al_opd rfl rfl rfl (ao_loadsV (A := #[.int _ _, .int _ _]) Try.isAgg81 Try.sizeOf81 hh rfl hx rfl (by decide)) ?_
      refine al_opd rfl rfl rfl (ao_alloca (zv81) (by rfl)) ?_
      first | refine al_opd rfl rfl rfl ((ao_storeL Try.sizeOf81 (by rfl) (by rfl) (by ((repeat (first | exact blk_push_new _ _ | assumption | apply blk_push_old | apply blk_set_same | refine (blk_set_ne (by first | assumption | omega | (simp only [next_push, next_set, next_kill, ne_eq]; omega))).trans ?_ | refine (blk_kill_ne (by first | assumption | omega | (simp only [next_push, next_set, next_kill, ne_eq]; omega))).trans ?_)); (first | done | fail))) (by first | rfl | (simp; (first | done | fail))) (by first | rfl | (simp; (first | done | fail))) (by first | rfl | (simp; (first | done | fail)))).to (SetR.eq (by (repeat (first | exact SetR.new | exact SetR.same | (apply SetR.old; · exact ⟨_, by ((repeat (first | exact blk_push_new _ _ | assumption | apply blk_push_old | apply blk_set_same | refine (blk_set_ne (by first | assumption | omega | (simp only [next_push, next_set, next_kill, ne_eq]; omega))).trans ?_ | refine (blk_kill_ne (by first | assumption | omega | (simp only [next_push, next_set, next_kill, ne_eq]; omega))).trans ?_)); (first | done | fail))⟩) | exact SetR.base))))) ?_ | refine al_opd rfl rfl rfl ((ao_storeP (ds := [.int _ _, .int _ _]) Try.sizeOf81 (by rfl) (by rfl) (by ((repeat (first | exact blk_push_new _ _ | assumption | apply blk_push_old | apply blk_set_same | refine (blk_set_ne (by first | assumption | omega | (simp only [next_push, next_set, next_kill, ne_eq]; omega))).trans ?_ | refine (blk_kill_ne (by first | assumption | omega | (simp only [next_push, next_set, next_kill, ne_eq]; omega))).trans ?_)); (first | done | fail))) (by first | rfl | (simp; (first | done | fail))) (by first | rfl | (simp; (first | done | fail))) (by first | decide | (simp; (first | done | fail)) | (simp; omega))).to (SetR.eq (by (repeat (first | exact SetR.new | exact SetR.same | (apply SetR.old; · exact ⟨_, by ((repeat (first | exact blk_push_new _ _ | assumption | apply blk_push_old | apply blk_set_same | refine (blk_set_ne (by first | assumption | omega | (simp only [next_push, next_set, next_kill, ne_eq]; omega))).trans ?_ | refine (blk_kill_ne (by first | assumption | omega | (simp only [next_push, next_set, next_kill, ne_eq]; omega))).trans ?_)); (first | done | fail))⟩) | exact SetR.base))))) ?_
      refine al_nilT ?_
      refine aw_seq ?_
      refine aw_region ?_
      first | refine al_opd rfl rfl rfl (ao_loada Try.isAgg101 Try.sizeOf101 rfl (by ((repeat (first | exact blk_push_new _ _ | assumption | apply blk_push_old | apply blk_set_same | refine (blk_set_ne (by first | assumption | omega | (simp only [next_push, next_set, next_kill, ne_eq]; omega))).trans ?_ | refine (blk_kill_ne (by first | assumption | omega | (simp only [next_push, next_set, next_kill, ne_eq]; omega))).trans ?_)); (first | done | fail))) (by rfl) (by first | rfl | (simp; (first | done | fail)))) ?_ | refine al_opd rfl rfl rfl (ao_loadsV (A := #[.int _ _, .int _ _]) Try.isAgg101 Try.sizeOf101 hh rfl hx rfl (by decide)) ?_
      first | refine al_opd rfl rfl rfl (ao_loada Try.isAgg81 Try.sizeOf81 rfl (by ((repeat (first | exact blk_push_new _ _ | assumption | apply blk_push_old | apply blk_set_same | refine (blk_set_ne (by first | assumption | omega | (simp only [next_push, next_set, next_kill, ne_eq]; omega))).trans ?_ | refine (blk_kill_ne (by first | assumption | omega | (simp only [next_push, next_set, next_kill, ne_eq]; omega))).trans ?_)); (first | done | fail))) (by rfl) (by first | rfl | (simp; (first | done | fail)))) ?_ | refine al_opd rfl rfl rfl (ao_loadsV (A := #[.int _ _, .int _ _]) Try.isAgg81 Try.sizeOf81 hh rfl hx rfl (by decide)) ?_
      refine al_opd rfl rfl rfl (ao_calld (follows_c (s := countS hs k) (x := x) hb hwx) Try.call94 rfl rfl) ?_
      first | refine al_opd rfl rfl rfl ((ao_storeL Try.sizeOf101 (by rfl) (by rfl) (by ((repeat (first | exact blk_push_new _ _ | assumption | apply blk_push_old | apply blk_set_same | refine (blk_set_ne (by first | assumption | omega | (simp only [next_push, next_set, next_kill, ne_eq]; omega))).trans ?_ | refine (blk_kill_ne (by first | assumption | omega | (simp only [next_push, next_set, next_kill, ne_eq]; omega))).trans ?_)); (first | done | fail))) (by first | rfl | (simp; (first | done | fail))) (by first | rfl | (simp; (first | done | fail))) (by first | rfl | (simp; (first | done | fail)))).to (SetR.eq (by (repeat (first | exact SetR.new | exact SetR.same | (apply SetR.old; · exact ⟨_, by ((repeat (first | exact blk_push_new _ _ | assumption | apply blk_push_old | apply blk_set_same | refine (blk_set_ne (by first | assumption | omega | (simp only [next_push, next_set, next_kill, ne_eq]; omega))).trans ?_ | refine (blk_kill_ne (by first | assumption | omega | (simp only [next_push, next_set, next_kill, ne_eq]; omega))).trans ?_)); (first | done | fail))⟩) | exact SetR.base))))) ?_ | refine al_opd rfl rfl rfl ((ao_storeP (ds := [.int _ _, .int _ _]) Try.sizeOf101 (by rfl) (by rfl) (by ((repeat (first | exact blk_push_new _ _ | assumption | apply blk_push_old | apply blk_set_same | refine (blk_set_ne (by first | assumption | omega | (simp only [next_push, next_set, next_kill, ne_eq]; omega))).trans ?_ | refine (blk_kill_ne (by first | assumption | omega | (simp only [next_push, next_set, next_kill, ne_eq]; omega))).trans ?_)); (first | done | fail))) (by first | rfl | (simp; (first | done | fail))) (by first | rfl | (simp; (first | done | fail))) (by first | decide | (simp; (first | done | fail)) | (simp; omega))).to (SetR.eq (by (repeat (first | exact SetR.new | exact SetR.same | (apply SetR.old; · exact ⟨_, by ((repeat (first | exact blk_push_new _ _ | assumption | apply blk_push_old | apply blk_set_same | refine (blk_set_ne (by first | assumption | omega | (simp only [next_push, next_set, next_kill, ne_eq]; omega))).trans ?_ | refine (blk_kill_ne (by first | assumption | omega | (simp only [next_push, next_set, next_kill, ne_eq]; omega))).trans ?_)); (first | done | fail))⟩) | exact SetR.base))))) ?_
      refine al_nilT ?_
      refine aw_region ?_
      first | refine al_opd rfl rfl rfl (ao_mv (v := .slice _ _ _) rfl) ?_ | refine al_opd rfl rfl rfl (ao_mv (v := w) rfl) ?_
      first | refine al_opd rfl rfl rfl (ao_loada Try.isAgg101 Try.sizeOf101 rfl (by ((repeat (first | exact blk_push_new _ _ | assumption | apply blk_push_old | apply blk_set_same | refine (blk_set_ne (by first | assumption | omega | (simp only [next_push, next_set, next_kill, ne_eq]; omega))).trans ?_ | refine (blk_kill_ne (by first | assumption | omega | (simp only [next_push, next_set, next_kill, ne_eq]; omega))).trans ?_)); (first | done | fail))) (by rfl) (by first | rfl | (simp; (first | done | fail)))) ?_ | refine al_opd rfl rfl rfl (ao_loadsV (A := #[.int _ _, .int _ _]) Try.isAgg101 Try.sizeOf101 hh rfl hx rfl (by decide)) ?_
      refine al_opd rfl rfl rfl (ao_lit1 (v := .agg _) Try.underlying67 Try.sizeOf101 Try.zeroValue101 (by rfl) (by rfl) rfl rfl (by rfl) (by first | rfl | (simp; (first | done | fail)))) ?_
      refine al_opd rfl rfl rfl (ao_appC Try.underlying67 ⟨_, Try.underlying67⟩ elem101 (by rfl) (by rfl) (by ((repeat (first | exact blk_push_new _ _ | assumption | apply blk_push_old | apply blk_set_same | refine (blk_set_ne (by first | assumption | omega | (simp only [next_push, next_set, next_kill, ne_eq]; omega))).trans ?_ | refine (blk_kill_ne (by first | assumption | omega | (simp only [next_push, next_set, next_kill, ne_eq]; omega))).trans ?_)); (first | done | fail))) (by (rw [fl_len said_len, List.length_take]; omega)) (by first | exact src_all (by ((repeat (first | exact blk_push_new _ _ | assumption | apply blk_push_old | apply blk_set_same | refine (blk_set_ne (by first | assumption | omega | (simp only [next_push, next_set, next_kill, ne_eq]; omega))).trans ?_ | refine (blk_kill_ne (by first | assumption | omega | (simp only [next_push, next_set, next_kill, ne_eq]; omega))).trans ?_)); (first | done | fail))) (by rfl) (by rfl) | exact src_all (by ((repeat (first | exact blk_push_new _ _ | assumption | apply blk_push_old | apply blk_set_same | refine (blk_set_ne (by first | assumption | omega | (simp only [next_push, next_set, next_kill, ne_eq]; omega))).trans ?_ | refine (blk_kill_ne (by first | assumption | omega | (simp only [next_push, next_set, next_kill, ne_eq]; omega))).trans ?_)); (first | done | fail))) (by rfl) (by simp)) (by first | rfl | simp [isOne]) (by first | omega | decide) (by first | omega | decide)) ?_
      first | refine al_opd rfl rfl rfl (ao_as (v := .slice _ _ _) rfl) ?_ | refine al_opd rfl rfl rfl (ao_as (v := w) rfl) ?_
      refine al_nilB ?_
      refine thenA_n ?_
      refine aw_region ?_
      first | refine al_opd rfl rfl rfl ((ao_add rfl rfl).val (nw_i64 (by first | omega | decide) (by first | omega | decide))) ?_ | refine al_opd rfl rfl rfl (ao_add rfl rfl) ?_
      refine al_opd rfl rfl rfl (ao_mv (v := .int _ _) rfl) ?_
      refine al_nilT ?_
      refine ⟨_, ?_, _, rfl, k + 1, _, _, by omega, rfl, .inr (by (first | exact Nat.le_refl _ | omega | (simp only [next_push, next_set, next_kill]; omega))), by (repeat (first | exact Same.refl _ _ | assumption | refine Same.push ?_ (by (first | exact Nat.le_refl _ | omega | (simp only [next_push, next_set, next_kill]; omega))) _ | refine Same.set ?_ (by (first | exact Nat.le_refl _ | omega | (simp only [next_push, next_set, next_kill]; omega))) _ | refine Same.kill ?_ (by (first | exact Nat.le_refl _ | omega | (simp only [next_push, next_set, next_kill]; omega))))), by (first | exact Nat.le_refl _ | omega | (simp only [next_push, next_set, next_kill]; omega)), ?_, ?_, by omega, rfl, rfl, rfl, by rfl, rfl⟩
      · omega
      · rw [← countS_at hx]; exact (by ((repeat (first | exact blk_push_new _ _ | assumption | apply blk_push_old | apply blk_set_same | refine (blk_set_ne (by first | assumption | omega | (simp only [next_push, next_set, next_kill, ne_eq]; omega))).trans ?_ | refine (blk_kill_ne (by first | assumption | omega | (simp only [next_push, next_set, next_kill, ne_eq]; omega))).trans ?_)); (first | done | fail)))
      · rw [← app_snoc (e := said) (counts_at (show k < hs.length by omega)), ← countS_at hx]; exact blk_push_new _ _
    · try simp only [decide_eq_true_eq, decide_eq_false_iff_not, Bool.not_eq_true', Bool.not_eq_false', Bool.and_eq_true, Bool.or_eq_true, Bool.and_eq_false_iff, Bool.or_eq_false_iff, beq_iff_eq, bne_iff_ne, beq_eq_false_iff_ne, bne_eq_false_iff_eq, ne_eq, Decidable.not_not, Bool.decide_eq_true] at h1_
      refine aw_exit ?_
      refine thenA_x ?_
      refine thenA_x ?_
      refine blockA_hit ?_
      refine thenA_n ?_
      refine aw_seq ?_
      refine aw_region ?_
      first | refine al_opd rfl rfl rfl (ao_mv (v := .slice _ _ _) rfl) ?_ | refine al_opd rfl rfl rfl (ao_mv (v := w) rfl) ?_
      first | refine al_opd rfl rfl rfl (ao_as (v := .slice _ _ _) rfl) ?_ | refine al_opd rfl rfl rfl (ao_as (v := w) rfl) ?_
      refine al_nilT ?_
      refine aw_ret ?_
      refine ends1 rfl (rv_tmp (v := .slice _ _ _) rfl) ?_
      rw [List.take_of_length_le (by omega)] at hkb
      obtain rfl : k = (counts hs).length := by omega
      exact ⟨hG, pb, by omega, hkb, fun ρ h => vr_sl h (by omega) (by omega)⟩

end Go.Proofs.Ytohaokdgokknaaa
