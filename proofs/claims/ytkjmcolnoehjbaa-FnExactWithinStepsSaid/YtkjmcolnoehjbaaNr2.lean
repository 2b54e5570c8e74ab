/- Contracts of the program's functions over abstract heaps. -/
import Derived.Test.YtkjmcolnoehjbaaBfs5
import Derived.Test.YtkjmcolnoehjbaaBase
import Derived.Test.YtkjmcolnoehjbaaFn
import Derived.Test.YtkjmcolnoehjbaaNr
namespace Go.Proofs.Ytkjmcolnoehjbaa
open Go Go.AW Go.Proofs
set_option linter.unusedVariables false
set_option linter.unusedSimpArgs false
set_option maxRecDepth 100000
set_option maxHeartbeats 2000000

-- spec.PartOf
theorem specPart1_c {r : Room} {s : Spot} {H : AHeap} (hw : wfRoom r) (hs : wfSpot s) (hst : stoodC r s true 0) : ACd Try.prog 17 [.agg (roomC r).toArray, .agg #[.int .i8 s.x, .int .i8 s.y]] H (.tuple #[.slice (some ⟨H.next, 0, none⟩) (nearL r s 100).length ((nearL r s 100).length + 1), .int .i64 0]) (H.push (.cells (fl spot (nearL r s 100)) 2)) := by
  have ⟨hr, hcl, hf, hfr⟩ := stood_ok hst
  have hnl : (nearL r s 100).length ≤ 100 := filter_len r (nearB r s 100) hr.2.1 hr.2.2.2.1
  refine ac_gcs (vrl_fl spot_plain _) (ac_body Try.func17 rfl Try.ntmps17 rfl ?_)
  refine aw_seq ?_
  refine aw_region ?_
  refine al_opd rfl rfl rfl (ao_boxa (by rfl)) ?_
  refine al_opd rfl rfl rfl (ao_boxa (by rfl)) ?_
  refine al_opd rfl rfl rfl (ao_as (v := .slice _ _ _) rfl) ?_
  refine al_opd rfl rfl rfl (ao_as (v := .int _ _) rfl) ?_
  refine al_nilT ?_
  refine aw_seq ?_
  refine aw_seq ?_
  refine aw_region ?_
  refine al_opd rfl rfl rfl (ao_loada Try.isAgg33 Try.sizeOf33 rfl (by ((repeat (first | exact blk_push_new _ _ | assumption | apply blk_push_old | apply blk_set_same | refine (blk_set_ne (by first | assumption | omega | (simp only [next_push, next_set, next_kill, ne_eq]; omega))).trans ?_ | refine (blk_kill_ne (by first | assumption | omega | (simp only [next_push, next_set, next_kill, ne_eq]; omega))).trans ?_)); (first | done | fail))) (by rfl) (by first | rfl | (simp; (first | done | fail)))) ?_
  refine al_opd rfl rfl rfl (ao_calld (l01Stood_c (r := r) (s := s) (fine := true) (c := 0) (by ((repeat (first | exact blk_push_new _ _ | assumption | apply blk_push_old | apply blk_set_same | refine (blk_set_ne (by first | assumption | omega | (simp only [next_push, next_set, next_kill, ne_eq]; omega))).trans ?_ | refine (blk_kill_ne (by first | assumption | omega | (simp only [next_push, next_set, next_kill, ne_eq]; omega))).trans ?_)); (first | done | fail))) hw hs hst) Try.call40 rfl rfl) ?_
  refine al_opd rfl rfl rfl (ao_as (v := .int _ _) rfl) ?_
  refine al_nilT ?_
  refine aw_seq ?_
  refine aw_region ?_
  refine al_opd rfl rfl rfl (ao_mv (v := .int _ _) rfl) ?_
  refine al_opd rfl rfl rfl (ao_neq rfl rfl) ?_
  refine al_nilT ?_
  refine aw_cond rfl (fun h1_ => ?_) (fun h1_ => ?_)
  · try simp only [decide_eq_true_eq, decide_eq_false_iff_not, Bool.not_eq_true', Bool.not_eq_false', Bool.and_eq_true, Bool.or_eq_true, Bool.and_eq_false_iff, Bool.or_eq_false_iff, beq_iff_eq, bne_iff_ne, beq_eq_false_iff_ne, bne_eq_false_iff_eq, ne_eq, Decidable.not_not, Bool.decide_eq_true] at h1_
    first | done | omega | (exfalso; revert h1_; simp; (first | done | omega))
  · try simp only [decide_eq_true_eq, decide_eq_false_iff_not, Bool.not_eq_true', Bool.not_eq_false', Bool.and_eq_true, Bool.or_eq_true, Bool.and_eq_false_iff, Bool.or_eq_false_iff, beq_iff_eq, bne_iff_ne, beq_eq_false_iff_ne, bne_eq_false_iff_eq, ne_eq, Decidable.not_not, Bool.decide_eq_true] at h1_
    refine aw_skipT ?_
    refine aw_seq ?_
    refine aw_region ?_
    refine al_opd rfl rfl rfl (ao_loada Try.isAgg33 Try.sizeOf33 rfl (by ((repeat (first | exact blk_push_new _ _ | assumption | apply blk_push_old | apply blk_set_same | refine (blk_set_ne (by first | assumption | omega | (simp only [next_push, next_set, next_kill, ne_eq]; omega))).trans ?_ | refine (blk_kill_ne (by first | assumption | omega | (simp only [next_push, next_set, next_kill, ne_eq]; omega))).trans ?_)); (first | done | fail))) (by rfl) (by first | rfl | (simp; (first | done | fail)))) ?_
    refine al_opd rfl rfl rfl (ao_calld (l01Near_c (r := r) (s := s) (k := 100) (by ((repeat (first | exact blk_push_new _ _ | assumption | apply blk_push_old | apply blk_set_same | refine (blk_set_ne (by first | assumption | omega | (simp only [next_push, next_set, next_kill, ne_eq]; omega))).trans ?_ | refine (blk_kill_ne (by first | assumption | omega | (simp only [next_push, next_set, next_kill, ne_eq]; omega))).trans ?_)); (first | done | fail))) hr hw hs hfr) Try.call44 rfl rfl) ?_
    refine al_opd rfl rfl rfl (ao_as (v := .slice _ _ _) rfl) ?_
    refine al_opd rfl rfl rfl (ao_as (v := .int _ _) rfl) ?_
    refine al_nilT ?_
    refine aw_ret ?_
    refine ends2 rfl (rv_tmp (v := .slice _ _ _) rfl) (rv_tmp (v := .int _ _) rfl) ?_
    exact ⟨by (repeat (first | exact Same.refl _ _ | assumption | refine Same.push ?_ (by (first | exact Nat.le_refl _ | omega | (simp only [next_push, next_set, next_kill]; omega))) _ | refine Same.set ?_ (by (first | exact Nat.le_refl _ | omega | (simp only [next_push, next_set, next_kill]; omega))) _ | refine Same.kill ?_ (by (first | exact Nat.le_refl _ | omega | (simp only [next_push, next_set, next_kill]; omega))))), _, by (first | exact Nat.le_refl _ | omega | (simp only [next_push, next_set, next_kill]; omega)), by ((repeat (first | exact blk_push_new _ _ | assumption | apply blk_push_old | apply blk_set_same | refine (blk_set_ne (by first | assumption | omega | (simp only [next_push, next_set, next_kill, ne_eq]; omega))).trans ?_ | refine (blk_kill_ne (by first | assumption | omega | (simp only [next_push, next_set, next_kill, ne_eq]; omega))).trans ?_)); (first | done | fail)), fun ρ h => vr_tup2 (vr_sl h (by omega) (by omega)) (.int _ _)⟩

-- spec.PartOf
theorem specPart0_c {r : Room} {s : Spot} {c : Int} {H : AHeap} (hw : wfRoom r) (hs : wfSpot s) (hst : stoodC r s true c) (h0 : c ≠ 0) : ACd Try.prog 17 [.agg (roomC r).toArray, .agg #[.int .i8 s.x, .int .i8 s.y]] H (.tuple #[.slice (some ⟨H.next, 0, none⟩) 0 0, .int .i64 c]) (H.push (.cells (fl spot []) 2)) := by
  refine ac_gcs (vrl_fl spot_plain []) (ac_body Try.func17 rfl Try.ntmps17 rfl ?_)
  refine aw_seq ?_
  refine aw_region ?_
  refine al_opd rfl rfl rfl (ao_boxa (by rfl)) ?_
  refine al_opd rfl rfl rfl (ao_boxa (by rfl)) ?_
  refine al_opd rfl rfl rfl (ao_as (v := .slice _ _ _) rfl) ?_
  refine al_opd rfl rfl rfl (ao_as (v := .int _ _) rfl) ?_
  refine al_nilT ?_
  refine aw_seq ?_
  refine aw_seq ?_
  refine aw_region ?_
  refine al_opd rfl rfl rfl (ao_loada Try.isAgg33 Try.sizeOf33 rfl (by ((repeat (first | exact blk_push_new _ _ | assumption | apply blk_push_old | apply blk_set_same | refine (blk_set_ne (by first | assumption | omega | (simp only [next_push, next_set, next_kill, ne_eq]; omega))).trans ?_ | refine (blk_kill_ne (by first | assumption | omega | (simp only [next_push, next_set, next_kill, ne_eq]; omega))).trans ?_)); (first | done | fail))) (by rfl) (by first | rfl | (simp; (first | done | fail)))) ?_
  refine al_opd rfl rfl rfl (ao_calld (l01Stood_c (r := r) (s := s) (fine := true) (c := c) (by ((repeat (first | exact blk_push_new _ _ | assumption | apply blk_push_old | apply blk_set_same | refine (blk_set_ne (by first | assumption | omega | (simp only [next_push, next_set, next_kill, ne_eq]; omega))).trans ?_ | refine (blk_kill_ne (by first | assumption | omega | (simp only [next_push, next_set, next_kill, ne_eq]; omega))).trans ?_)); (first | done | fail))) hw hs hst) Try.call40 rfl rfl) ?_
  refine al_opd rfl rfl rfl (ao_as (v := .int _ _) rfl) ?_
  refine al_nilT ?_
  refine aw_seq ?_
  refine aw_region ?_
  refine al_opd rfl rfl rfl (ao_mv (v := .int _ _) rfl) ?_
  refine al_opd rfl rfl rfl (ao_neq rfl rfl) ?_
  refine al_nilT ?_
  refine aw_cond rfl (fun h1_ => ?_) (fun h1_ => ?_)
  · try simp only [decide_eq_true_eq, decide_eq_false_iff_not, Bool.not_eq_true', Bool.not_eq_false', Bool.and_eq_true, Bool.or_eq_true, Bool.and_eq_false_iff, Bool.or_eq_false_iff, beq_iff_eq, bne_iff_ne, beq_eq_false_iff_ne, bne_eq_false_iff_eq, ne_eq, Decidable.not_not, Bool.decide_eq_true] at h1_
    refine aw_seq ?_
    refine aw_region ?_
    refine al_opd rfl rfl rfl (ao_lit0 Try.underlying40 Try.sizeOf33 Try.zeroValue33 (by rfl) (by rfl) rfl) ?_
    refine al_opd rfl rfl rfl (ao_mv (v := .int _ _) rfl) ?_
    refine al_opd rfl rfl rfl (ao_as (v := .slice _ _ _) rfl) ?_
    refine al_opd rfl rfl rfl (ao_as (v := .int _ _) rfl) ?_
    refine al_nilT ?_
    refine aw_ret ?_
    refine thenA_r ?_
    refine ends2 rfl (rv_tmp (v := .slice _ _ _) rfl) (rv_tmp (v := .int _ _) rfl) ?_
    exact ⟨by (repeat (first | exact Same.refl _ _ | assumption | refine Same.push ?_ (by (first | exact Nat.le_refl _ | omega | (simp only [next_push, next_set, next_kill]; omega))) _ | refine Same.set ?_ (by (first | exact Nat.le_refl _ | omega | (simp only [next_push, next_set, next_kill]; omega))) _ | refine Same.kill ?_ (by (first | exact Nat.le_refl _ | omega | (simp only [next_push, next_set, next_kill]; omega))))), _, by (first | exact Nat.le_refl _ | omega | (simp only [next_push, next_set, next_kill]; omega)), by ((repeat (first | exact blk_push_new _ _ | assumption | apply blk_push_old | apply blk_set_same | refine (blk_set_ne (by first | assumption | omega | (simp only [next_push, next_set, next_kill, ne_eq]; omega))).trans ?_ | refine (blk_kill_ne (by first | assumption | omega | (simp only [next_push, next_set, next_kill, ne_eq]; omega))).trans ?_)); (first | done | fail)), fun ρ h => vr_tup2 (vr_sl h (by omega) (by omega)) (.int _ _)⟩
  · try simp only [decide_eq_true_eq, decide_eq_false_iff_not, Bool.not_eq_true', Bool.not_eq_false', Bool.and_eq_true, Bool.or_eq_true, Bool.and_eq_false_iff, Bool.or_eq_false_iff, beq_iff_eq, bne_iff_ne, beq_eq_false_iff_ne, bne_eq_false_iff_eq, ne_eq, Decidable.not_not, Bool.decide_eq_true] at h1_
    first | done | omega | (exfalso; revert h1_; simp; (first | done | omega))

-- impl.PartOf
theorem implPart1_c {r : Room} {s : Spot} {H : AHeap} (hw : wfRoom r) (hs : wfSpot s) (hst : stoodC r s true 0) : ACd Try.prog 18 [.agg (roomC r).toArray, .agg #[.int .i8 s.x, .int .i8 s.y]] H (.tuple #[.slice (some ⟨H.next, 0, none⟩) (nearL r s 100).length ((nearL r s 100).length + 1), .int .i64 0]) (H.push (.cells (fl spot (nearL r s 100)) 2)) := by
  have ⟨hr, hcl, hf, hfr⟩ := stood_ok hst
  have hnl : (nearL r s 100).length ≤ 100 := filter_len r (nearB r s 100) hr.2.1 hr.2.2.2.1
  obtain ⟨c1, hc1⟩ := exists_cellC r [s]
  obtain ⟨c3, hc3⟩ := exists_stateC r [s]
  refine ac_gcs (vrl_fl spot_plain _) (ac_body Try.func18 rfl Try.ntmps18 rfl ?_)
  refine aw_seq ?_
  refine aw_region ?_
  refine al_opd rfl rfl rfl (ao_boxa (by rfl)) ?_
  refine al_opd rfl rfl rfl (ao_boxa (by rfl)) ?_
  refine al_opd rfl rfl rfl (ao_as (v := .slice _ _ _) rfl) ?_
  refine al_opd rfl rfl rfl (ao_as (v := .int _ _) rfl) ?_
  refine al_nilT ?_
  refine aw_seq ?_
  refine aw_seq ?_
  refine aw_draw (m := 11) mo (by kernel_rfl) rfl (fun _ _ _ h => h) ?_
  refine dw_opd rfl rfl rfl (ao_loada Try.isAgg31 Try.sizeOf31 rfl (by ((repeat (first | exact blk_push_new _ _ | assumption | apply blk_push_old | apply blk_set_same | refine (blk_set_ne (by first | assumption | omega | (simp only [next_push, next_set, next_kill, ne_eq]; omega))).trans ?_ | refine (blk_kill_ne (by first | assumption | omega | (simp only [next_push, next_set, next_kill, ne_eq]; omega))).trans ?_)); (first | done | fail))) (by rfl) (by first | rfl | (simp; (first | done | fail)))) ?_
  refine dw_opd rfl rfl rfl (ao_loada Try.isAgg33 Try.sizeOf33 rfl (by ((repeat (first | exact blk_push_new _ _ | assumption | apply blk_push_old | apply blk_set_same | refine (blk_set_ne (by first | assumption | omega | (simp only [next_push, next_set, next_kill, ne_eq]; omega))).trans ?_ | refine (blk_kill_ne (by first | assumption | omega | (simp only [next_push, next_set, next_kill, ne_eq]; omega))).trans ?_)); (first | done | fail))) (by rfl) (by first | rfl | (simp; (first | done | fail)))) ?_
  refine dw_opn rfl rfl rfl (ao_lit1 (v := .agg _) Try.underlying40 Try.sizeOf33 Try.zeroValue33 (by rfl) (by rfl) rfl rfl (by rfl) (by first | rfl | (simp; (first | done | fail)))) ?_
  refine dw_opd rfl rfl rfl (ao_calld (cellCode_c (r := r) (l := [s]) (c := c1) hw (fun i x h => by match i with | 0 => (simp at h; subst h; exact hs) | i + 1 => (simp at h)) (Sl.full spot_len (by ((repeat (first | exact blk_push_new _ _ | assumption | apply blk_push_old | apply blk_set_same | refine (blk_set_ne (by first | assumption | omega | (simp only [next_push, next_set, next_kill, ne_eq]; omega))).trans ?_ | refine (blk_kill_ne (by first | assumption | omega | (simp only [next_push, next_set, next_kill, ne_eq]; omega))).trans ?_)); (first | done | fail))) rfl rfl rfl) (by simp) hc1) Try.call37 rfl rfl) ?_
  refine dw_opd rfl rfl rfl (ao_loada Try.isAgg31 Try.sizeOf31 rfl (by ((repeat (first | exact blk_push_new _ _ | assumption | apply blk_push_old | apply blk_set_same | refine (blk_set_ne (by first | assumption | omega | (simp only [next_push, next_set, next_kill, ne_eq]; omega))).trans ?_ | refine (blk_kill_ne (by first | assumption | omega | (simp only [next_push, next_set, next_kill, ne_eq]; omega))).trans ?_)); (first | done | fail))) (by rfl) (by first | rfl | (simp; (first | done | fail)))) ?_
  refine dw_opd rfl rfl rfl (ao_loada Try.isAgg33 Try.sizeOf33 rfl (by ((repeat (first | exact blk_push_new _ _ | assumption | apply blk_push_old | apply blk_set_same | refine (blk_set_ne (by first | assumption | omega | (simp only [next_push, next_set, next_kill, ne_eq]; omega))).trans ?_ | refine (blk_kill_ne (by first | assumption | omega | (simp only [next_push, next_set, next_kill, ne_eq]; omega))).trans ?_)); (first | done | fail))) (by rfl) (by first | rfl | (simp; (first | done | fail)))) ?_
  refine dw_opn rfl rfl rfl (ao_lit1 (v := .agg _) Try.underlying40 Try.sizeOf33 Try.zeroValue33 (by rfl) (by rfl) rfl rfl (by rfl) (by first | rfl | (simp; (first | done | fail)))) ?_
  refine dw_opd rfl rfl rfl (ao_calld (stateCode_c (r := r) (l := [s]) (c := c3) hw (fun i x h => by match i with | 0 => (simp at h; subst h; exact hs) | i + 1 => (simp at h)) (Sl.full spot_len (by ((repeat (first | exact blk_push_new _ _ | assumption | apply blk_push_old | apply blk_set_same | refine (blk_set_ne (by first | assumption | omega | (simp only [next_push, next_set, next_kill, ne_eq]; omega))).trans ?_ | refine (blk_kill_ne (by first | assumption | omega | (simp only [next_push, next_set, next_kill, ne_eq]; omega))).trans ?_)); (first | done | fail))) rfl rfl rfl) (by simp) hc3) Try.call38 rfl rfl) ?_
  refine dw_opn rfl rfl rfl (ao_buildSlice (A := #[.int .i64 c1, .int .i64 c3]) Try.underlying88 Try.sizeOf2 Try.zeroValue2 (by rfl) (by rfl) (by decide) (by decide) (by rfl) (by first | rfl | kernel_rfl)) ?_
  refine dw_opd rfl rfl rfl (ao_calld (ACd.val (firstOf_c (l := [c1, c3]) (Sl.full i64_len (by ((repeat (first | exact blk_push_new _ _ | assumption | apply blk_push_old | apply blk_set_same | refine (blk_set_ne (by first | assumption | omega | (simp only [next_push, next_set, next_kill, ne_eq]; omega))).trans ?_ | refine (blk_kill_ne (by first | assumption | omega | (simp only [next_push, next_set, next_kill, ne_eq]; omega))).trans ?_)); (first | done | fail))) rfl rfl rfl) (by simp)) (congrArg (Value.int .i64) (stood_first2 hst hc1 hc3))) Try.call36 rfl rfl) ?_
  refine dw_opd rfl rfl rfl (ao_as (v := .int _ _) rfl) ?_
  refine dw_end ?_
  refine al_nilT ?_
  refine aw_seq ?_
  refine aw_region ?_
  refine al_opd rfl rfl rfl (ao_mv (v := .int _ _) rfl) ?_
  refine al_opd rfl rfl rfl (ao_neq rfl rfl) ?_
  refine al_nilT ?_
  refine aw_cond rfl (fun h1_ => ?_) (fun h1_ => ?_)
  · try simp only [decide_eq_true_eq, decide_eq_false_iff_not, Bool.not_eq_true', Bool.not_eq_false', Bool.and_eq_true, Bool.or_eq_true, Bool.and_eq_false_iff, Bool.or_eq_false_iff, beq_iff_eq, bne_iff_ne, beq_eq_false_iff_ne, bne_eq_false_iff_eq, ne_eq, Decidable.not_not, Bool.decide_eq_true] at h1_
    first | done | omega | (exfalso; revert h1_; simp; (first | done | omega))
  · try simp only [decide_eq_true_eq, decide_eq_false_iff_not, Bool.not_eq_true', Bool.not_eq_false', Bool.and_eq_true, Bool.or_eq_true, Bool.and_eq_false_iff, Bool.or_eq_false_iff, beq_iff_eq, bne_iff_ne, beq_eq_false_iff_ne, bne_eq_false_iff_eq, ne_eq, Decidable.not_not, Bool.decide_eq_true] at h1_
    refine aw_skipT ?_
    refine aw_seq ?_
    refine aw_region ?_
    refine al_opd rfl rfl rfl (ao_loada Try.isAgg31 Try.sizeOf31 rfl (by ((repeat (first | exact blk_push_new _ _ | assumption | apply blk_push_old | apply blk_set_same | refine (blk_set_ne (by first | assumption | omega | (simp only [next_push, next_set, next_kill, ne_eq]; omega))).trans ?_ | refine (blk_kill_ne (by first | assumption | omega | (simp only [next_push, next_set, next_kill, ne_eq]; omega))).trans ?_)); (first | done | fail))) (by rfl) (by first | rfl | (simp; (first | done | fail)))) ?_
    refine al_opd rfl rfl rfl (ao_loada Try.isAgg33 Try.sizeOf33 rfl (by ((repeat (first | exact blk_push_new _ _ | assumption | apply blk_push_old | apply blk_set_same | refine (blk_set_ne (by first | assumption | omega | (simp only [next_push, next_set, next_kill, ne_eq]; omega))).trans ?_ | refine (blk_kill_ne (by first | assumption | omega | (simp only [next_push, next_set, next_kill, ne_eq]; omega))).trans ?_)); (first | done | fail))) (by rfl) (by first | rfl | (simp; (first | done | fail)))) ?_
    refine al_opd rfl rfl rfl (ao_calld (implNear_c (r := r) (s := s) (k := 100) hr hw hs hfr) Try.call45 rfl rfl) ?_
    refine al_opd rfl rfl rfl (ao_as (v := .slice _ _ _) rfl) ?_
    refine al_opd rfl rfl rfl (ao_as (v := .int _ _) rfl) ?_
    refine al_nilT ?_
    refine aw_ret ?_
    refine ends2 rfl (rv_tmp (v := .slice _ _ _) rfl) (rv_tmp (v := .int _ _) rfl) ?_
    exact ⟨by (repeat (first | exact Same.refl _ _ | assumption | refine Same.push ?_ (by (first | exact Nat.le_refl _ | omega | (simp only [next_push, next_set, next_kill]; omega))) _ | refine Same.set ?_ (by (first | exact Nat.le_refl _ | omega | (simp only [next_push, next_set, next_kill]; omega))) _ | refine Same.kill ?_ (by (first | exact Nat.le_refl _ | omega | (simp only [next_push, next_set, next_kill]; omega))))), _, by (first | exact Nat.le_refl _ | omega | (simp only [next_push, next_set, next_kill]; omega)), by ((repeat (first | exact blk_push_new _ _ | assumption | apply blk_push_old | apply blk_set_same | refine (blk_set_ne (by first | assumption | omega | (simp only [next_push, next_set, next_kill, ne_eq]; omega))).trans ?_ | refine (blk_kill_ne (by first | assumption | omega | (simp only [next_push, next_set, next_kill, ne_eq]; omega))).trans ?_)); (first | done | fail)), fun ρ h => vr_tup2 (vr_sl h (by omega) (by omega)) (.int _ _)⟩

-- impl.PartOf
theorem implPart0_c {r : Room} {s : Spot} {c : Int} {H : AHeap} (hw : wfRoom r) (hs : wfSpot s) (hst : stoodC r s true c) (h0 : c ≠ 0) : ACd Try.prog 18 [.agg (roomC r).toArray, .agg #[.int .i8 s.x, .int .i8 s.y]] H (.tuple #[.slice none 0 0, .int .i64 c]) (H) := by
  obtain ⟨c1, hc1⟩ := exists_cellC r [s]
  obtain ⟨c3, hc3⟩ := exists_stateC r [s]
  refine ac_gc0 (fun β => VR.plainT β (by first | rfl | simp [plainT, plainV, plain1])) (ac_body Try.func18 rfl Try.ntmps18 rfl ?_)
  refine aw_seq ?_
  refine aw_region ?_
  refine al_opd rfl rfl rfl (ao_boxa (by rfl)) ?_
  refine al_opd rfl rfl rfl (ao_boxa (by rfl)) ?_
  refine al_opd rfl rfl rfl (ao_as (v := .slice _ _ _) rfl) ?_
  refine al_opd rfl rfl rfl (ao_as (v := .int _ _) rfl) ?_
  refine al_nilT ?_
  refine aw_seq ?_
  refine aw_seq ?_
  refine aw_draw (m := 11) mo (by kernel_rfl) rfl (fun _ _ _ h => h) ?_
  refine dw_opd rfl rfl rfl (ao_loada Try.isAgg31 Try.sizeOf31 rfl (by ((repeat (first | exact blk_push_new _ _ | assumption | apply blk_push_old | apply blk_set_same | refine (blk_set_ne (by first | assumption | omega | (simp only [next_push, next_set, next_kill, ne_eq]; omega))).trans ?_ | refine (blk_kill_ne (by first | assumption | omega | (simp only [next_push, next_set, next_kill, ne_eq]; omega))).trans ?_)); (first | done | fail))) (by rfl) (by first | rfl | (simp; (first | done | fail)))) ?_
  refine dw_opd rfl rfl rfl (ao_loada Try.isAgg33 Try.sizeOf33 rfl (by ((repeat (first | exact blk_push_new _ _ | assumption | apply blk_push_old | apply blk_set_same | refine (blk_set_ne (by first | assumption | omega | (simp only [next_push, next_set, next_kill, ne_eq]; omega))).trans ?_ | refine (blk_kill_ne (by first | assumption | omega | (simp only [next_push, next_set, next_kill, ne_eq]; omega))).trans ?_)); (first | done | fail))) (by rfl) (by first | rfl | (simp; (first | done | fail)))) ?_
  refine dw_opn rfl rfl rfl (ao_lit1 (v := .agg _) Try.underlying40 Try.sizeOf33 Try.zeroValue33 (by rfl) (by rfl) rfl rfl (by rfl) (by first | rfl | (simp; (first | done | fail)))) ?_
  refine dw_opd rfl rfl rfl (ao_calld (cellCode_c (r := r) (l := [s]) (c := c1) hw (fun i x h => by match i with | 0 => (simp at h; subst h; exact hs) | i + 1 => (simp at h)) (Sl.full spot_len (by ((repeat (first | exact blk_push_new _ _ | assumption | apply blk_push_old | apply blk_set_same | refine (blk_set_ne (by first | assumption | omega | (simp only [next_push, next_set, next_kill, ne_eq]; omega))).trans ?_ | refine (blk_kill_ne (by first | assumption | omega | (simp only [next_push, next_set, next_kill, ne_eq]; omega))).trans ?_)); (first | done | fail))) rfl rfl rfl) (by simp) hc1) Try.call37 rfl rfl) ?_
  refine dw_opd rfl rfl rfl (ao_loada Try.isAgg31 Try.sizeOf31 rfl (by ((repeat (first | exact blk_push_new _ _ | assumption | apply blk_push_old | apply blk_set_same | refine (blk_set_ne (by first | assumption | omega | (simp only [next_push, next_set, next_kill, ne_eq]; omega))).trans ?_ | refine (blk_kill_ne (by first | assumption | omega | (simp only [next_push, next_set, next_kill, ne_eq]; omega))).trans ?_)); (first | done | fail))) (by rfl) (by first | rfl | (simp; (first | done | fail)))) ?_
  refine dw_opd rfl rfl rfl (ao_loada Try.isAgg33 Try.sizeOf33 rfl (by ((repeat (first | exact blk_push_new _ _ | assumption | apply blk_push_old | apply blk_set_same | refine (blk_set_ne (by first | assumption | omega | (simp only [next_push, next_set, next_kill, ne_eq]; omega))).trans ?_ | refine (blk_kill_ne (by first | assumption | omega | (simp only [next_push, next_set, next_kill, ne_eq]; omega))).trans ?_)); (first | done | fail))) (by rfl) (by first | rfl | (simp; (first | done | fail)))) ?_
  refine dw_opn rfl rfl rfl (ao_lit1 (v := .agg _) Try.underlying40 Try.sizeOf33 Try.zeroValue33 (by rfl) (by rfl) rfl rfl (by rfl) (by first | rfl | (simp; (first | done | fail)))) ?_
  refine dw_opd rfl rfl rfl (ao_calld (stateCode_c (r := r) (l := [s]) (c := c3) hw (fun i x h => by match i with | 0 => (simp at h; subst h; exact hs) | i + 1 => (simp at h)) (Sl.full spot_len (by ((repeat (first | exact blk_push_new _ _ | assumption | apply blk_push_old | apply blk_set_same | refine (blk_set_ne (by first | assumption | omega | (simp only [next_push, next_set, next_kill, ne_eq]; omega))).trans ?_ | refine (blk_kill_ne (by first | assumption | omega | (simp only [next_push, next_set, next_kill, ne_eq]; omega))).trans ?_)); (first | done | fail))) rfl rfl rfl) (by simp) hc3) Try.call38 rfl rfl) ?_
  refine dw_opn rfl rfl rfl (ao_buildSlice (A := #[.int .i64 c1, .int .i64 c3]) Try.underlying88 Try.sizeOf2 Try.zeroValue2 (by rfl) (by rfl) (by decide) (by decide) (by rfl) (by first | rfl | kernel_rfl)) ?_
  refine dw_opd rfl rfl rfl (ao_calld (ACd.val (firstOf_c (l := [c1, c3]) (Sl.full i64_len (by ((repeat (first | exact blk_push_new _ _ | assumption | apply blk_push_old | apply blk_set_same | refine (blk_set_ne (by first | assumption | omega | (simp only [next_push, next_set, next_kill, ne_eq]; omega))).trans ?_ | refine (blk_kill_ne (by first | assumption | omega | (simp only [next_push, next_set, next_kill, ne_eq]; omega))).trans ?_)); (first | done | fail))) rfl rfl rfl) (by simp)) (congrArg (Value.int .i64) (stood_first2 hst hc1 hc3))) Try.call36 rfl rfl) ?_
  refine dw_opd rfl rfl rfl (ao_as (v := .int _ _) rfl) ?_
  refine dw_end ?_
  refine al_nilT ?_
  refine aw_seq ?_
  refine aw_region ?_
  refine al_opd rfl rfl rfl (ao_mv (v := .int _ _) rfl) ?_
  refine al_opd rfl rfl rfl (ao_neq rfl rfl) ?_
  refine al_nilT ?_
  refine aw_cond rfl (fun h1_ => ?_) (fun h1_ => ?_)
  · try simp only [decide_eq_true_eq, decide_eq_false_iff_not, Bool.not_eq_true', Bool.not_eq_false', Bool.and_eq_true, Bool.or_eq_true, Bool.and_eq_false_iff, Bool.or_eq_false_iff, beq_iff_eq, bne_iff_ne, beq_eq_false_iff_ne, bne_eq_false_iff_eq, ne_eq, Decidable.not_not, Bool.decide_eq_true] at h1_
    refine aw_seq ?_
    refine aw_region ?_
    refine al_opd rfl rfl rfl (ao_mv (v := .int _ _) rfl) ?_
    refine al_opd rfl rfl rfl (ao_as (v := .slice _ _ _) rfl) ?_
    refine al_opd rfl rfl rfl (ao_as (v := .int _ _) rfl) ?_
    refine al_nilT ?_
    refine aw_ret ?_
    refine thenA_r ?_
    refine ends2 rfl (rv_tmp (v := .slice _ _ _) rfl) (rv_tmp (v := .int _ _) rfl) ?_
    exact ⟨by first | rfl | (simp [*]; (first | done | fail)), by (repeat (first | exact Same.refl _ _ | assumption | refine Same.push ?_ (by (first | exact Nat.le_refl _ | omega | (simp only [next_push, next_set, next_kill]; omega))) _ | refine Same.set ?_ (by (first | exact Nat.le_refl _ | omega | (simp only [next_push, next_set, next_kill]; omega))) _ | refine Same.kill ?_ (by (first | exact Nat.le_refl _ | omega | (simp only [next_push, next_set, next_kill]; omega)))))⟩
  · try simp only [decide_eq_true_eq, decide_eq_false_iff_not, Bool.not_eq_true', Bool.not_eq_false', Bool.and_eq_true, Bool.or_eq_true, Bool.and_eq_false_iff, Bool.or_eq_false_iff, beq_iff_eq, bne_iff_ne, beq_eq_false_iff_ne, bne_eq_false_iff_eq, ne_eq, Decidable.not_not, Bool.decide_eq_true] at h1_
    first | done | omega | (exfalso; revert h1_; simp; (first | done | omega))

-- spec.WithinSteps
theorem specWithin1_c {r : Room} {s : Spot} {k : Int} {H : AHeap} (hw : wfRoom r) (hs : wfSpot s) (hst : stoodC r s (decide (0 ≤ k) && decide (k ≤ 100)) 0) : ACd Try.prog 22 [.agg (roomC r).toArray, .agg #[.int .i8 s.x, .int .i8 s.y], .int .i64 k] H (.tuple #[.slice (some ⟨H.next, 0, none⟩) (nearL r s k).length ((nearL r s k).length + 1), .int .i64 0]) (H.push (.cells (fl spot (nearL r s k)) 2)) := by
  have ⟨hr, hcl, hf, hfr⟩ := stood_ok hst
  have hnl : (nearL r s k).length ≤ 100 := filter_len r (nearB r s k) hr.2.1 hr.2.2.2.1
  refine ac_gcs (vrl_fl spot_plain _) (ac_body Try.func22 rfl Try.ntmps22 rfl ?_)
  refine aw_seq ?_
  refine aw_region ?_
  refine al_opd rfl rfl rfl (ao_boxa (by rfl)) ?_
  refine al_opd rfl rfl rfl (ao_boxa (by rfl)) ?_
  refine al_opd rfl rfl rfl (ao_as (v := .slice _ _ _) rfl) ?_
  refine al_opd rfl rfl rfl (ao_as (v := .int _ _) rfl) ?_
  refine al_nilT ?_
  refine aw_seq ?_
  refine aw_seq ?_
  refine aw_draw (m := 5) mo (by kernel_rfl) rfl (fun _ _ _ h => h) ?_
  refine dw_opd rfl rfl rfl (ao_loada Try.isAgg33 Try.sizeOf33 rfl (by ((repeat (first | exact blk_push_new _ _ | assumption | apply blk_push_old | apply blk_set_same | refine (blk_set_ne (by first | assumption | omega | (simp only [next_push, next_set, next_kill, ne_eq]; omega))).trans ?_ | refine (blk_kill_ne (by first | assumption | omega | (simp only [next_push, next_set, next_kill, ne_eq]; omega))).trans ?_)); (first | done | fail))) (by rfl) (by first | rfl | (simp; (first | done | fail)))) ?_
  refine dw_opd rfl rfl rfl (ao_mv (v := .int _ _) rfl) ?_
  refine dw_opd rfl rfl rfl (ao_calld l00In_c Try.call46 rfl rfl) ?_
  refine dw_opd rfl rfl rfl (ao_calld (l01Stood_c (r := r) (s := s) (fine := (decide (0 ≤ k) && decide (k ≤ 100))) (c := 0) (by ((repeat (first | exact blk_push_new _ _ | assumption | apply blk_push_old | apply blk_set_same | refine (blk_set_ne (by first | assumption | omega | (simp only [next_push, next_set, next_kill, ne_eq]; omega))).trans ?_ | refine (blk_kill_ne (by first | assumption | omega | (simp only [next_push, next_set, next_kill, ne_eq]; omega))).trans ?_)); (first | done | fail))) hw hs hst) Try.call40 rfl rfl) ?_
  refine dw_opd rfl rfl rfl (ao_as (v := .int _ _) rfl) ?_
  refine dw_end ?_
  refine al_nilT ?_
  refine aw_seq ?_
  refine aw_region ?_
  refine al_opd rfl rfl rfl (ao_mv (v := .int _ _) rfl) ?_
  refine al_opd rfl rfl rfl (ao_neq rfl rfl) ?_
  refine al_nilT ?_
  refine aw_cond rfl (fun h1_ => ?_) (fun h1_ => ?_)
  · try simp only [decide_eq_true_eq, decide_eq_false_iff_not, Bool.not_eq_true', Bool.not_eq_false', Bool.and_eq_true, Bool.or_eq_true, Bool.and_eq_false_iff, Bool.or_eq_false_iff, beq_iff_eq, bne_iff_ne, beq_eq_false_iff_ne, bne_eq_false_iff_eq, ne_eq, Decidable.not_not, Bool.decide_eq_true] at h1_
    first | done | omega | (exfalso; revert h1_; simp; (first | done | omega))
  · try simp only [decide_eq_true_eq, decide_eq_false_iff_not, Bool.not_eq_true', Bool.not_eq_false', Bool.and_eq_true, Bool.or_eq_true, Bool.and_eq_false_iff, Bool.or_eq_false_iff, beq_iff_eq, bne_iff_ne, beq_eq_false_iff_ne, bne_eq_false_iff_eq, ne_eq, Decidable.not_not, Bool.decide_eq_true] at h1_
    refine aw_skipT ?_
    refine aw_seq ?_
    refine aw_region ?_
    refine al_opd rfl rfl rfl (ao_loada Try.isAgg33 Try.sizeOf33 rfl (by ((repeat (first | exact blk_push_new _ _ | assumption | apply blk_push_old | apply blk_set_same | refine (blk_set_ne (by first | assumption | omega | (simp only [next_push, next_set, next_kill, ne_eq]; omega))).trans ?_ | refine (blk_kill_ne (by first | assumption | omega | (simp only [next_push, next_set, next_kill, ne_eq]; omega))).trans ?_)); (first | done | fail))) (by rfl) (by first | rfl | (simp; (first | done | fail)))) ?_
    refine al_opd rfl rfl rfl (ao_mv (v := .int _ _) rfl) ?_
    refine al_opd rfl rfl rfl (ao_calld (l01Near_c (r := r) (s := s) (k := k) (by ((repeat (first | exact blk_push_new _ _ | assumption | apply blk_push_old | apply blk_set_same | refine (blk_set_ne (by first | assumption | omega | (simp only [next_push, next_set, next_kill, ne_eq]; omega))).trans ?_ | refine (blk_kill_ne (by first | assumption | omega | (simp only [next_push, next_set, next_kill, ne_eq]; omega))).trans ?_)); (first | done | fail))) hr hw hs hfr) Try.call44 rfl rfl) ?_
    refine al_opd rfl rfl rfl (ao_as (v := .slice _ _ _) rfl) ?_
    refine al_opd rfl rfl rfl (ao_as (v := .int _ _) rfl) ?_
    refine al_nilT ?_
    refine aw_ret ?_
    refine ends2 rfl (rv_tmp (v := .slice _ _ _) rfl) (rv_tmp (v := .int _ _) rfl) ?_
    exact ⟨by (repeat (first | exact Same.refl _ _ | assumption | refine Same.push ?_ (by (first | exact Nat.le_refl _ | omega | (simp only [next_push, next_set, next_kill]; omega))) _ | refine Same.set ?_ (by (first | exact Nat.le_refl _ | omega | (simp only [next_push, next_set, next_kill]; omega))) _ | refine Same.kill ?_ (by (first | exact Nat.le_refl _ | omega | (simp only [next_push, next_set, next_kill]; omega))))), _, by (first | exact Nat.le_refl _ | omega | (simp only [next_push, next_set, next_kill]; omega)), by ((repeat (first | exact blk_push_new _ _ | assumption | apply blk_push_old | apply blk_set_same | refine (blk_set_ne (by first | assumption | omega | (simp only [next_push, next_set, next_kill, ne_eq]; omega))).trans ?_ | refine (blk_kill_ne (by first | assumption | omega | (simp only [next_push, next_set, next_kill, ne_eq]; omega))).trans ?_)); (first | done | fail)), fun ρ h => vr_tup2 (vr_sl h (by omega) (by omega)) (.int _ _)⟩

-- spec.WithinSteps
theorem specWithin0_c {r : Room} {s : Spot} {k : Int} {c : Int} {H : AHeap} (hw : wfRoom r) (hs : wfSpot s) (hst : stoodC r s (decide (0 ≤ k) && decide (k ≤ 100)) c) (h0 : c ≠ 0) : ACd Try.prog 22 [.agg (roomC r).toArray, .agg #[.int .i8 s.x, .int .i8 s.y], .int .i64 k] H (.tuple #[.slice (some ⟨H.next, 0, none⟩) 0 0, .int .i64 c]) (H.push (.cells (fl spot []) 2)) := by
  refine ac_gcs (vrl_fl spot_plain []) (ac_body Try.func22 rfl Try.ntmps22 rfl ?_)
  refine aw_seq ?_
  refine aw_region ?_
  refine al_opd rfl rfl rfl (ao_boxa (by rfl)) ?_
  refine al_opd rfl rfl rfl (ao_boxa (by rfl)) ?_
  refine al_opd rfl rfl rfl (ao_as (v := .slice _ _ _) rfl) ?_
  refine al_opd rfl rfl rfl (ao_as (v := .int _ _) rfl) ?_
  refine al_nilT ?_
  refine aw_seq ?_
  refine aw_seq ?_
  refine aw_draw (m := 5) mo (by kernel_rfl) rfl (fun _ _ _ h => h) ?_
  refine dw_opd rfl rfl rfl (ao_loada Try.isAgg33 Try.sizeOf33 rfl (by ((repeat (first | exact blk_push_new _ _ | assumption | apply blk_push_old | apply blk_set_same | refine (blk_set_ne (by first | assumption | omega | (simp only [next_push, next_set, next_kill, ne_eq]; omega))).trans ?_ | refine (blk_kill_ne (by first | assumption | omega | (simp only [next_push, next_set, next_kill, ne_eq]; omega))).trans ?_)); (first | done | fail))) (by rfl) (by first | rfl | (simp; (first | done | fail)))) ?_
  refine dw_opd rfl rfl rfl (ao_mv (v := .int _ _) rfl) ?_
  refine dw_opd rfl rfl rfl (ao_calld l00In_c Try.call46 rfl rfl) ?_
  refine dw_opd rfl rfl rfl (ao_calld (l01Stood_c (r := r) (s := s) (fine := (decide (0 ≤ k) && decide (k ≤ 100))) (c := c) (by ((repeat (first | exact blk_push_new _ _ | assumption | apply blk_push_old | apply blk_set_same | refine (blk_set_ne (by first | assumption | omega | (simp only [next_push, next_set, next_kill, ne_eq]; omega))).trans ?_ | refine (blk_kill_ne (by first | assumption | omega | (simp only [next_push, next_set, next_kill, ne_eq]; omega))).trans ?_)); (first | done | fail))) hw hs hst) Try.call40 rfl rfl) ?_
  refine dw_opd rfl rfl rfl (ao_as (v := .int _ _) rfl) ?_
  refine dw_end ?_
  refine al_nilT ?_
  refine aw_seq ?_
  refine aw_region ?_
  refine al_opd rfl rfl rfl (ao_mv (v := .int _ _) rfl) ?_
  refine al_opd rfl rfl rfl (ao_neq rfl rfl) ?_
  refine al_nilT ?_
  refine aw_cond rfl (fun h1_ => ?_) (fun h1_ => ?_)
  · try simp only [decide_eq_true_eq, decide_eq_false_iff_not, Bool.not_eq_true', Bool.not_eq_false', Bool.and_eq_true, Bool.or_eq_true, Bool.and_eq_false_iff, Bool.or_eq_false_iff, beq_iff_eq, bne_iff_ne, beq_eq_false_iff_ne, bne_eq_false_iff_eq, ne_eq, Decidable.not_not, Bool.decide_eq_true] at h1_
    refine aw_seq ?_
    refine aw_region ?_
    refine al_opd rfl rfl rfl (ao_lit0 Try.underlying40 Try.sizeOf33 Try.zeroValue33 (by rfl) (by rfl) rfl) ?_
    refine al_opd rfl rfl rfl (ao_mv (v := .int _ _) rfl) ?_
    refine al_opd rfl rfl rfl (ao_as (v := .slice _ _ _) rfl) ?_
    refine al_opd rfl rfl rfl (ao_as (v := .int _ _) rfl) ?_
    refine al_nilT ?_
    refine aw_ret ?_
    refine thenA_r ?_
    refine ends2 rfl (rv_tmp (v := .slice _ _ _) rfl) (rv_tmp (v := .int _ _) rfl) ?_
    exact ⟨by (repeat (first | exact Same.refl _ _ | assumption | refine Same.push ?_ (by (first | exact Nat.le_refl _ | omega | (simp only [next_push, next_set, next_kill]; omega))) _ | refine Same.set ?_ (by (first | exact Nat.le_refl _ | omega | (simp only [next_push, next_set, next_kill]; omega))) _ | refine Same.kill ?_ (by (first | exact Nat.le_refl _ | omega | (simp only [next_push, next_set, next_kill]; omega))))), _, by (first | exact Nat.le_refl _ | omega | (simp only [next_push, next_set, next_kill]; omega)), by ((repeat (first | exact blk_push_new _ _ | assumption | apply blk_push_old | apply blk_set_same | refine (blk_set_ne (by first | assumption | omega | (simp only [next_push, next_set, next_kill, ne_eq]; omega))).trans ?_ | refine (blk_kill_ne (by first | assumption | omega | (simp only [next_push, next_set, next_kill, ne_eq]; omega))).trans ?_)); (first | done | fail)), fun ρ h => vr_tup2 (vr_sl h (by omega) (by omega)) (.int _ _)⟩
  · try simp only [decide_eq_true_eq, decide_eq_false_iff_not, Bool.not_eq_true', Bool.not_eq_false', Bool.and_eq_true, Bool.or_eq_true, Bool.and_eq_false_iff, Bool.or_eq_false_iff, beq_iff_eq, bne_iff_ne, beq_eq_false_iff_ne, bne_eq_false_iff_eq, ne_eq, Decidable.not_not, Bool.decide_eq_true] at h1_
    first | done | omega | (exfalso; revert h1_; simp; (first | done | omega))

-- impl.WithinSteps
theorem implWithin1_c {r : Room} {s : Spot} {k : Int} {H : AHeap} (hw : wfRoom r) (hs : wfSpot s) (hst : stoodC r s (decide (0 ≤ k) && decide (k ≤ 100)) 0) : ACd Try.prog 23 [.agg (roomC r).toArray, .agg #[.int .i8 s.x, .int .i8 s.y], .int .i64 k] H (.tuple #[.slice (some ⟨H.next, 0, none⟩) (nearL r s k).length ((nearL r s k).length + 1), .int .i64 0]) (H.push (.cells (fl spot (nearL r s k)) 2)) := by
  have ⟨hr, hcl, hf, hfr⟩ := stood_ok hst
  have hnl : (nearL r s k).length ≤ 100 := filter_len r (nearB r s k) hr.2.1 hr.2.2.2.1
  obtain ⟨c1, hc1⟩ := exists_cellC r [s]
  obtain ⟨c3, hc3⟩ := exists_stateC r [s]
  refine ac_gcs (vrl_fl spot_plain _) (ac_body Try.func23 rfl Try.ntmps23 rfl ?_)
  refine aw_seq ?_
  refine aw_region ?_
  refine al_opd rfl rfl rfl (ao_boxa (by rfl)) ?_
  refine al_opd rfl rfl rfl (ao_boxa (by rfl)) ?_
  refine al_opd rfl rfl rfl (ao_as (v := .slice _ _ _) rfl) ?_
  refine al_opd rfl rfl rfl (ao_as (v := .int _ _) rfl) ?_
  refine al_nilT ?_
  refine aw_seq ?_
  refine aw_seq ?_
  refine aw_draw (m := 14) mo (by kernel_rfl) rfl (fun _ _ _ h => h) ?_
  refine dw_opd rfl rfl rfl (ao_loada Try.isAgg31 Try.sizeOf31 rfl (by ((repeat (first | exact blk_push_new _ _ | assumption | apply blk_push_old | apply blk_set_same | refine (blk_set_ne (by first | assumption | omega | (simp only [next_push, next_set, next_kill, ne_eq]; omega))).trans ?_ | refine (blk_kill_ne (by first | assumption | omega | (simp only [next_push, next_set, next_kill, ne_eq]; omega))).trans ?_)); (first | done | fail))) (by rfl) (by first | rfl | (simp; (first | done | fail)))) ?_
  refine dw_opd rfl rfl rfl (ao_loada Try.isAgg33 Try.sizeOf33 rfl (by ((repeat (first | exact blk_push_new _ _ | assumption | apply blk_push_old | apply blk_set_same | refine (blk_set_ne (by first | assumption | omega | (simp only [next_push, next_set, next_kill, ne_eq]; omega))).trans ?_ | refine (blk_kill_ne (by first | assumption | omega | (simp only [next_push, next_set, next_kill, ne_eq]; omega))).trans ?_)); (first | done | fail))) (by rfl) (by first | rfl | (simp; (first | done | fail)))) ?_
  refine dw_opn rfl rfl rfl (ao_lit1 (v := .agg _) Try.underlying40 Try.sizeOf33 Try.zeroValue33 (by rfl) (by rfl) rfl rfl (by rfl) (by first | rfl | (simp; (first | done | fail)))) ?_
  refine dw_opd rfl rfl rfl (ao_calld (cellCode_c (r := r) (l := [s]) (c := c1) hw (fun i x h => by match i with | 0 => (simp at h; subst h; exact hs) | i + 1 => (simp at h)) (Sl.full spot_len (by ((repeat (first | exact blk_push_new _ _ | assumption | apply blk_push_old | apply blk_set_same | refine (blk_set_ne (by first | assumption | omega | (simp only [next_push, next_set, next_kill, ne_eq]; omega))).trans ?_ | refine (blk_kill_ne (by first | assumption | omega | (simp only [next_push, next_set, next_kill, ne_eq]; omega))).trans ?_)); (first | done | fail))) rfl rfl rfl) (by simp) hc1) Try.call37 rfl rfl) ?_
  refine dw_opd rfl rfl rfl (ao_mv (v := .int _ _) rfl) ?_
  refine dw_opd rfl rfl rfl (ao_calld within_c Try.call48 rfl rfl) ?_
  refine dw_opd rfl rfl rfl (ao_calld (unless_c (b := (decide (0 ≤ k) && decide (k ≤ 100))) (c := 2)) Try.call47 rfl rfl) ?_
  refine dw_opd rfl rfl rfl (ao_loada Try.isAgg31 Try.sizeOf31 rfl (by ((repeat (first | exact blk_push_new _ _ | assumption | apply blk_push_old | apply blk_set_same | refine (blk_set_ne (by first | assumption | omega | (simp only [next_push, next_set, next_kill, ne_eq]; omega))).trans ?_ | refine (blk_kill_ne (by first | assumption | omega | (simp only [next_push, next_set, next_kill, ne_eq]; omega))).trans ?_)); (first | done | fail))) (by rfl) (by first | rfl | (simp; (first | done | fail)))) ?_
  refine dw_opd rfl rfl rfl (ao_loada Try.isAgg33 Try.sizeOf33 rfl (by ((repeat (first | exact blk_push_new _ _ | assumption | apply blk_push_old | apply blk_set_same | refine (blk_set_ne (by first | assumption | omega | (simp only [next_push, next_set, next_kill, ne_eq]; omega))).trans ?_ | refine (blk_kill_ne (by first | assumption | omega | (simp only [next_push, next_set, next_kill, ne_eq]; omega))).trans ?_)); (first | done | fail))) (by rfl) (by first | rfl | (simp; (first | done | fail)))) ?_
  refine dw_opn rfl rfl rfl (ao_lit1 (v := .agg _) Try.underlying40 Try.sizeOf33 Try.zeroValue33 (by rfl) (by rfl) rfl rfl (by rfl) (by first | rfl | (simp; (first | done | fail)))) ?_
  refine dw_opd rfl rfl rfl (ao_calld (stateCode_c (r := r) (l := [s]) (c := c3) hw (fun i x h => by match i with | 0 => (simp at h; subst h; exact hs) | i + 1 => (simp at h)) (Sl.full spot_len (by ((repeat (first | exact blk_push_new _ _ | assumption | apply blk_push_old | apply blk_set_same | refine (blk_set_ne (by first | assumption | omega | (simp only [next_push, next_set, next_kill, ne_eq]; omega))).trans ?_ | refine (blk_kill_ne (by first | assumption | omega | (simp only [next_push, next_set, next_kill, ne_eq]; omega))).trans ?_)); (first | done | fail))) rfl rfl rfl) (by simp) hc3) Try.call38 rfl rfl) ?_
  refine dw_opn rfl rfl rfl (ao_buildSlice (A := #[.int .i64 c1, .int .i64 (if (decide (0 ≤ k) && decide (k ≤ 100)) = true then 0 else 2), .int .i64 c3]) Try.underlying88 Try.sizeOf2 Try.zeroValue2 (by rfl) (by rfl) (by decide) (by decide) (by rfl) (by first | rfl | kernel_rfl)) ?_
  refine dw_opd rfl rfl rfl (ao_calld (ACd.val (firstOf_c (l := [c1, if (decide (0 ≤ k) && decide (k ≤ 100)) = true then 0 else 2, c3]) (Sl.full i64_len (by ((repeat (first | exact blk_push_new _ _ | assumption | apply blk_push_old | apply blk_set_same | refine (blk_set_ne (by first | assumption | omega | (simp only [next_push, next_set, next_kill, ne_eq]; omega))).trans ?_ | refine (blk_kill_ne (by first | assumption | omega | (simp only [next_push, next_set, next_kill, ne_eq]; omega))).trans ?_)); (first | done | fail))) rfl rfl rfl) (by simp)) (congrArg (Value.int .i64) (stood_first hst hc1 rfl hc3))) Try.call36 rfl rfl) ?_
  refine dw_opd rfl rfl rfl (ao_as (v := .int _ _) rfl) ?_
  refine dw_end ?_
  refine al_nilT ?_
  refine aw_seq ?_
  refine aw_region ?_
  refine al_opd rfl rfl rfl (ao_mv (v := .int _ _) rfl) ?_
  refine al_opd rfl rfl rfl (ao_neq rfl rfl) ?_
  refine al_nilT ?_
  refine aw_cond rfl (fun h1_ => ?_) (fun h1_ => ?_)
  · try simp only [decide_eq_true_eq, decide_eq_false_iff_not, Bool.not_eq_true', Bool.not_eq_false', Bool.and_eq_true, Bool.or_eq_true, Bool.and_eq_false_iff, Bool.or_eq_false_iff, beq_iff_eq, bne_iff_ne, beq_eq_false_iff_ne, bne_eq_false_iff_eq, ne_eq, Decidable.not_not, Bool.decide_eq_true] at h1_
    first | done | omega | (exfalso; revert h1_; simp; (first | done | omega))
  · try simp only [decide_eq_true_eq, decide_eq_false_iff_not, Bool.not_eq_true', Bool.not_eq_false', Bool.and_eq_true, Bool.or_eq_true, Bool.and_eq_false_iff, Bool.or_eq_false_iff, beq_iff_eq, bne_iff_ne, beq_eq_false_iff_ne, bne_eq_false_iff_eq, ne_eq, Decidable.not_not, Bool.decide_eq_true] at h1_
    refine aw_skipT ?_
    refine aw_seq ?_
    refine aw_region ?_
    refine al_opd rfl rfl rfl (ao_loada Try.isAgg31 Try.sizeOf31 rfl (by ((repeat (first | exact blk_push_new _ _ | assumption | apply blk_push_old | apply blk_set_same | refine (blk_set_ne (by first | assumption | omega | (simp only [next_push, next_set, next_kill, ne_eq]; omega))).trans ?_ | refine (blk_kill_ne (by first | assumption | omega | (simp only [next_push, next_set, next_kill, ne_eq]; omega))).trans ?_)); (first | done | fail))) (by rfl) (by first | rfl | (simp; (first | done | fail)))) ?_
    refine al_opd rfl rfl rfl (ao_loada Try.isAgg33 Try.sizeOf33 rfl (by ((repeat (first | exact blk_push_new _ _ | assumption | apply blk_push_old | apply blk_set_same | refine (blk_set_ne (by first | assumption | omega | (simp only [next_push, next_set, next_kill, ne_eq]; omega))).trans ?_ | refine (blk_kill_ne (by first | assumption | omega | (simp only [next_push, next_set, next_kill, ne_eq]; omega))).trans ?_)); (first | done | fail))) (by rfl) (by first | rfl | (simp; (first | done | fail)))) ?_
    refine al_opd rfl rfl rfl (ao_mv (v := .int _ _) rfl) ?_
    refine al_opd rfl rfl rfl (ao_calld (implNear_c (r := r) (s := s) (k := k) hr hw hs hfr) Try.call45 rfl rfl) ?_
    refine al_opd rfl rfl rfl (ao_as (v := .slice _ _ _) rfl) ?_
    refine al_opd rfl rfl rfl (ao_as (v := .int _ _) rfl) ?_
    refine al_nilT ?_
    refine aw_ret ?_
    refine ends2 rfl (rv_tmp (v := .slice _ _ _) rfl) (rv_tmp (v := .int _ _) rfl) ?_
    exact ⟨by (repeat (first | exact Same.refl _ _ | assumption | refine Same.push ?_ (by (first | exact Nat.le_refl _ | omega | (simp only [next_push, next_set, next_kill]; omega))) _ | refine Same.set ?_ (by (first | exact Nat.le_refl _ | omega | (simp only [next_push, next_set, next_kill]; omega))) _ | refine Same.kill ?_ (by (first | exact Nat.le_refl _ | omega | (simp only [next_push, next_set, next_kill]; omega))))), _, by (first | exact Nat.le_refl _ | omega | (simp only [next_push, next_set, next_kill]; omega)), by ((repeat (first | exact blk_push_new _ _ | assumption | apply blk_push_old | apply blk_set_same | refine (blk_set_ne (by first | assumption | omega | (simp only [next_push, next_set, next_kill, ne_eq]; omega))).trans ?_ | refine (blk_kill_ne (by first | assumption | omega | (simp only [next_push, next_set, next_kill, ne_eq]; omega))).trans ?_)); (first | done | fail)), fun ρ h => vr_tup2 (vr_sl h (by omega) (by omega)) (.int _ _)⟩

-- impl.WithinSteps
theorem implWithin0_c {r : Room} {s : Spot} {k : Int} {c : Int} {H : AHeap} (hw : wfRoom r) (hs : wfSpot s) (hst : stoodC r s (decide (0 ≤ k) && decide (k ≤ 100)) c) (h0 : c ≠ 0) : ACd Try.prog 23 [.agg (roomC r).toArray, .agg #[.int .i8 s.x, .int .i8 s.y], .int .i64 k] H (.tuple #[.slice none 0 0, .int .i64 c]) (H) := by
  obtain ⟨c1, hc1⟩ := exists_cellC r [s]
  obtain ⟨c3, hc3⟩ := exists_stateC r [s]
  refine ac_gc0 (fun β => VR.plainT β (by first | rfl | simp [plainT, plainV, plain1])) (ac_body Try.func23 rfl Try.ntmps23 rfl ?_)
  refine aw_seq ?_
  refine aw_region ?_
  refine al_opd rfl rfl rfl (ao_boxa (by rfl)) ?_
  refine al_opd rfl rfl rfl (ao_boxa (by rfl)) ?_
  refine al_opd rfl rfl rfl (ao_as (v := .slice _ _ _) rfl) ?_
  refine al_opd rfl rfl rfl (ao_as (v := .int _ _) rfl) ?_
  refine al_nilT ?_
  refine aw_seq ?_
  refine aw_seq ?_
  refine aw_draw (m := 14) mo (by kernel_rfl) rfl (fun _ _ _ h => h) ?_
  refine dw_opd rfl rfl rfl (ao_loada Try.isAgg31 Try.sizeOf31 rfl (by ((repeat (first | exact blk_push_new _ _ | assumption | apply blk_push_old | apply blk_set_same | refine (blk_set_ne (by first | assumption | omega | (simp only [next_push, next_set, next_kill, ne_eq]; omega))).trans ?_ | refine (blk_kill_ne (by first | assumption | omega | (simp only [next_push, next_set, next_kill, ne_eq]; omega))).trans ?_)); (first | done | fail))) (by rfl) (by first | rfl | (simp; (first | done | fail)))) ?_
  refine dw_opd rfl rfl rfl (ao_loada Try.isAgg33 Try.sizeOf33 rfl (by ((repeat (first | exact blk_push_new _ _ | assumption | apply blk_push_old | apply blk_set_same | refine (blk_set_ne (by first | assumption | omega | (simp only [next_push, next_set, next_kill, ne_eq]; omega))).trans ?_ | refine (blk_kill_ne (by first | assumption | omega | (simp only [next_push, next_set, next_kill, ne_eq]; omega))).trans ?_)); (first | done | fail))) (by rfl) (by first | rfl | (simp; (first | done | fail)))) ?_
  refine dw_opn rfl rfl rfl (ao_lit1 (v := .agg _) Try.underlying40 Try.sizeOf33 Try.zeroValue33 (by rfl) (by rfl) rfl rfl (by rfl) (by first | rfl | (simp; (first | done | fail)))) ?_
  refine dw_opd rfl rfl rfl (ao_calld (cellCode_c (r := r) (l := [s]) (c := c1) hw (fun i x h => by match i with | 0 => (simp at h; subst h; exact hs) | i + 1 => (simp at h)) (Sl.full spot_len (by ((repeat (first | exact blk_push_new _ _ | assumption | apply blk_push_old | apply blk_set_same | refine (blk_set_ne (by first | assumption | omega | (simp only [next_push, next_set, next_kill, ne_eq]; omega))).trans ?_ | refine (blk_kill_ne (by first | assumption | omega | (simp only [next_push, next_set, next_kill, ne_eq]; omega))).trans ?_)); (first | done | fail))) rfl rfl rfl) (by simp) hc1) Try.call37 rfl rfl) ?_
  refine dw_opd rfl rfl rfl (ao_mv (v := .int _ _) rfl) ?_
  refine dw_opd rfl rfl rfl (ao_calld within_c Try.call48 rfl rfl) ?_
  refine dw_opd rfl rfl rfl (ao_calld (unless_c (b := (decide (0 ≤ k) && decide (k ≤ 100))) (c := 2)) Try.call47 rfl rfl) ?_
  refine dw_opd rfl rfl rfl (ao_loada Try.isAgg31 Try.sizeOf31 rfl (by ((repeat (first | exact blk_push_new _ _ | assumption | apply blk_push_old | apply blk_set_same | refine (blk_set_ne (by first | assumption | omega | (simp only [next_push, next_set, next_kill, ne_eq]; omega))).trans ?_ | refine (blk_kill_ne (by first | assumption | omega | (simp only [next_push, next_set, next_kill, ne_eq]; omega))).trans ?_)); (first | done | fail))) (by rfl) (by first | rfl | (simp; (first | done | fail)))) ?_
  refine dw_opd rfl rfl rfl (ao_loada Try.isAgg33 Try.sizeOf33 rfl (by ((repeat (first | exact blk_push_new _ _ | assumption | apply blk_push_old | apply blk_set_same | refine (blk_set_ne (by first | assumption | omega | (simp only [next_push, next_set, next_kill, ne_eq]; omega))).trans ?_ | refine (blk_kill_ne (by first | assumption | omega | (simp only [next_push, next_set, next_kill, ne_eq]; omega))).trans ?_)); (first | done | fail))) (by rfl) (by first | rfl | (simp; (first | done | fail)))) ?_
  refine dw_opn rfl rfl rfl (ao_lit1 (v := .agg _) Try.underlying40 Try.sizeOf33 Try.zeroValue33 (by rfl) (by rfl) rfl rfl (by rfl) (by first | rfl | (simp; (first | done | fail)))) ?_
  refine dw_opd rfl rfl rfl (ao_calld (stateCode_c (r := r) (l := [s]) (c := c3) hw (fun i x h => by match i with | 0 => (simp at h; subst h; exact hs) | i + 1 => (simp at h)) (Sl.full spot_len (by ((repeat (first | exact blk_push_new _ _ | assumption | apply blk_push_old | apply blk_set_same | refine (blk_set_ne (by first | assumption | omega | (simp only [next_push, next_set, next_kill, ne_eq]; omega))).trans ?_ | refine (blk_kill_ne (by first | assumption | omega | (simp only [next_push, next_set, next_kill, ne_eq]; omega))).trans ?_)); (first | done | fail))) rfl rfl rfl) (by simp) hc3) Try.call38 rfl rfl) ?_
  refine dw_opn rfl rfl rfl (ao_buildSlice (A := #[.int .i64 c1, .int .i64 (if (decide (0 ≤ k) && decide (k ≤ 100)) = true then 0 else 2), .int .i64 c3]) Try.underlying88 Try.sizeOf2 Try.zeroValue2 (by rfl) (by rfl) (by decide) (by decide) (by rfl) (by first | rfl | kernel_rfl)) ?_
  refine dw_opd rfl rfl rfl (ao_calld (ACd.val (firstOf_c (l := [c1, if (decide (0 ≤ k) && decide (k ≤ 100)) = true then 0 else 2, c3]) (Sl.full i64_len (by ((repeat (first | exact blk_push_new _ _ | assumption | apply blk_push_old | apply blk_set_same | refine (blk_set_ne (by first | assumption | omega | (simp only [next_push, next_set, next_kill, ne_eq]; omega))).trans ?_ | refine (blk_kill_ne (by first | assumption | omega | (simp only [next_push, next_set, next_kill, ne_eq]; omega))).trans ?_)); (first | done | fail))) rfl rfl rfl) (by simp)) (congrArg (Value.int .i64) (stood_first hst hc1 rfl hc3))) Try.call36 rfl rfl) ?_
  refine dw_opd rfl rfl rfl (ao_as (v := .int _ _) rfl) ?_
  refine dw_end ?_
  refine al_nilT ?_
  refine aw_seq ?_
  refine aw_region ?_
  refine al_opd rfl rfl rfl (ao_mv (v := .int _ _) rfl) ?_
  refine al_opd rfl rfl rfl (ao_neq rfl rfl) ?_
  refine al_nilT ?_
  refine aw_cond rfl (fun h1_ => ?_) (fun h1_ => ?_)
  · try simp only [decide_eq_true_eq, decide_eq_false_iff_not, Bool.not_eq_true', Bool.not_eq_false', Bool.and_eq_true, Bool.or_eq_true, Bool.and_eq_false_iff, Bool.or_eq_false_iff, beq_iff_eq, bne_iff_ne, beq_eq_false_iff_ne, bne_eq_false_iff_eq, ne_eq, Decidable.not_not, Bool.decide_eq_true] at h1_
    refine aw_seq ?_
    refine aw_region ?_
    refine al_opd rfl rfl rfl (ao_mv (v := .int _ _) rfl) ?_
    refine al_opd rfl rfl rfl (ao_as (v := .slice _ _ _) rfl) ?_
    refine al_opd rfl rfl rfl (ao_as (v := .int _ _) rfl) ?_
    refine al_nilT ?_
    refine aw_ret ?_
    refine thenA_r ?_
    refine ends2 rfl (rv_tmp (v := .slice _ _ _) rfl) (rv_tmp (v := .int _ _) rfl) ?_
    exact ⟨by first | rfl | (simp [*]; (first | done | fail)), by (repeat (first | exact Same.refl _ _ | assumption | refine Same.push ?_ (by (first | exact Nat.le_refl _ | omega | (simp only [next_push, next_set, next_kill]; omega))) _ | refine Same.set ?_ (by (first | exact Nat.le_refl _ | omega | (simp only [next_push, next_set, next_kill]; omega))) _ | refine Same.kill ?_ (by (first | exact Nat.le_refl _ | omega | (simp only [next_push, next_set, next_kill]; omega)))))⟩
  · try simp only [decide_eq_true_eq, decide_eq_false_iff_not, Bool.not_eq_true', Bool.not_eq_false', Bool.and_eq_true, Bool.or_eq_true, Bool.and_eq_false_iff, Bool.or_eq_false_iff, beq_iff_eq, bne_iff_ne, beq_eq_false_iff_ne, bne_eq_false_iff_eq, ne_eq, Decidable.not_not, Bool.decide_eq_true] at h1_
    first | done | omega | (exfalso; revert h1_; simp; (first | done | omega))

end Go.Proofs.Ytkjmcolnoehjbaa
