/- Contracts of the program's functions over abstract heaps. -/
import Derived.Test.YtokgcdacdmllbaaFile4
import Derived.Test.YtokgcdacdmllbaaTab
namespace Go.Proofs.Ytokgcdacdmllbaa
open Go Go.AW Go.Proofs
set_option linter.unusedVariables false
set_option linter.unusedSimpArgs false
set_option maxRecDepth 100000
set_option maxHeartbeats 2000000

-- slices.Grow[impl.File,impl.Spot]
theorem growF_c {n : Nat} {H : AHeap} (h0 : 0 < n) (hn : n ≤ 4194304) : ACd Try.prog 102 [.slice none 0 0, .int .i64 n] H (.slice (some ⟨H.next, 0, none⟩) 0 1) (H.push (.cells [] 2)) := by
  refine ac_gcsP (fun _ => VRL.nil _) (ac_body Try.func102 rfl Try.ntmps102 rfl ?_)
  refine aw_seq ?_
  refine aw_region ?_
  refine al_opd rfl rfl rfl (ao_as (v := .slice _ _ _) rfl) ?_
  refine al_nilT ?_
  refine aw_seq ?_
  refine aw_seq ?_
  refine aw_region ?_
  refine al_opd rfl rfl rfl (ao_mv (v := .int _ _) rfl) ?_
  refine al_opd rfl rfl rfl (ao_lss rfl rfl) ?_
  refine al_nilT ?_
  refine aw_cond rfl (fun h1_ => ?_) (fun h1_ => ?_)
  · try simp only [decide_eq_true_eq, decide_eq_false_iff_not, Bool.not_eq_true', Bool.not_eq_false', Bool.and_eq_true, Bool.or_eq_true, Bool.and_eq_false_iff, Bool.or_eq_false_iff, beq_iff_eq, bne_iff_ne, beq_eq_false_iff_ne, bne_eq_false_iff_eq, ne_eq, Decidable.not_not, Bool.decide_eq_true] at h1_
    first | done | omega | (exfalso; revert h1_; simp; (first | done | omega))
  · try simp only [decide_eq_true_eq, decide_eq_false_iff_not, Bool.not_eq_true', Bool.not_eq_false', Bool.and_eq_true, Bool.or_eq_true, Bool.and_eq_false_iff, Bool.or_eq_false_iff, beq_iff_eq, bne_iff_ne, beq_eq_false_iff_ne, bne_eq_false_iff_eq, ne_eq, Decidable.not_not, Bool.decide_eq_true] at h1_
    refine aw_skipT ?_
    refine aw_seq ?_
    refine aw_seq ?_
    refine aw_region ?_
    refine al_opd rfl rfl rfl (ao_mv (v := .int _ _) rfl) ?_
    refine al_opd rfl rfl rfl (ao_mv (v := .slice _ _ _) rfl) ?_
    refine al_opd rfl rfl rfl (ao_capN Try.underlying26 (by rfl)) ?_
    refine al_opd rfl rfl rfl (ao_mv (v := .slice _ _ _) rfl) ?_
    first | refine al_opd rfl rfl rfl (ao_lenS Try.underlying26 (by rfl)) ?_ | refine al_opd rfl rfl rfl (ao_lenN Try.underlying26 (by rfl)) ?_
    refine al_opd rfl rfl rfl ((ao_sub rfl rfl).val (v' := .int .i64 0) (by rfl)) ?_
    refine al_opd rfl rfl rfl ((ao_sub rfl rfl).val (v' := .int .i64 (n : Int)) (zero63 n (by omega))) ?_
    refine al_opd rfl rfl rfl (ao_as (v := .int _ _) rfl) ?_
    refine al_nilT ?_
    refine aw_seq ?_
    refine aw_region ?_
    refine al_opd rfl rfl rfl (ao_mv (v := .int _ _) rfl) ?_
    refine al_opd rfl rfl rfl (ao_gtr rfl rfl) ?_
    refine al_nilT ?_
    refine aw_cond rfl (fun h2_ => ?_) (fun h2_ => ?_)
    · try simp only [decide_eq_true_eq, decide_eq_false_iff_not, Bool.not_eq_true', Bool.not_eq_false', Bool.and_eq_true, Bool.or_eq_true, Bool.and_eq_false_iff, Bool.or_eq_false_iff, beq_iff_eq, bne_iff_ne, beq_eq_false_iff_ne, bne_eq_false_iff_eq, ne_eq, Decidable.not_not, Bool.decide_eq_true] at h2_
      refine aw_region ?_
      refine al_opd rfl rfl rfl (ao_mv (v := .slice _ _ _) rfl) ?_
      refine al_opd rfl rfl rfl (ao_mv (v := .slice _ _ _) rfl) ?_
      refine al_opd rfl rfl rfl (ao_capN Try.underlying26 (by rfl)) ?_
      refine al_opd rfl rfl rfl (ao_sliceN Try.underlying26 Try.sizeOf63 (by rfl) (by rfl)) ?_
      refine al_opd rfl rfl rfl (ao_mv (v := .int _ _) rfl) ?_
      refine al_opd rfl rfl rfl (ao_appM (n := n) (size := 2) (bytes := 2) Try.underlying26 Try.underlying3 elem63 Try.zeroValue63 (by rfl) (by rfl) (by rfl) h0 (by omega) (by omega) (by omega)) ?_
      refine al_opd rfl rfl rfl (ao_mv (v := .slice _ _ _) rfl) ?_
      first | refine al_opd rfl rfl rfl (ao_lenS Try.underlying26 (by rfl)) ?_ | refine al_opd rfl rfl rfl (ao_lenN Try.underlying26 (by rfl)) ?_
      refine al_opd rfl rfl rfl (ao_sliceHi Try.underlying26 Try.sizeOf63 (by rfl) (by rfl) (by first | rfl | omega) (by ((repeat (first | exact blk_push_new _ _ | assumption | apply blk_push_old | apply blk_set_same | refine (blk_set_ne (by first | assumption | omega | (simp only [next_push, next_set, next_kill, ne_eq]; omega))).trans ?_ | refine (blk_kill_ne (by first | assumption | omega | (simp only [next_push, next_set, next_kill, ne_eq]; omega))).trans ?_)); (first | done | fail))) (by rfl) (by first | omega | decide | (simp; omega))) ?_
      refine al_opd rfl rfl rfl (ao_as (v := .slice _ _ _) rfl) ?_
      refine al_nilT ?_
      refine aw_seq ?_
      refine aw_region ?_
      refine al_opd rfl rfl rfl (ao_mv (v := .slice _ _ _) rfl) ?_
      refine al_opd rfl rfl rfl (ao_as (v := .slice _ _ _) rfl) ?_
      refine al_nilT ?_
      refine aw_ret ?_
      refine ends1 rfl (rv_tmp (v := .slice _ _ _) rfl) ?_
      exact ⟨by (repeat (first | exact Same.refl _ _ | assumption | refine Same.push ?_ (by (first | exact Nat.le_refl _ | omega | (simp only [next_push, next_set, next_kill]; omega))) _ | refine Same.set ?_ (by (first | exact Nat.le_refl _ | omega | (simp only [next_push, next_set, next_kill]; omega))) _ | refine Same.kill ?_ (by (first | exact Nat.le_refl _ | omega | (simp only [next_push, next_set, next_kill]; omega))))), H.next, _, Nat.le_refl _, by rw [List.nil_append]; exact (by ((repeat (first | exact blk_push_new _ _ | assumption | apply blk_push_old | apply blk_set_same | refine (blk_set_ne (by first | assumption | omega | (simp only [next_push, next_set, next_kill, ne_eq]; omega))).trans ?_ | refine (blk_kill_ne (by first | assumption | omega | (simp only [next_push, next_set, next_kill, ne_eq]; omega))).trans ?_)); (first | done | fail))), fun ρ h => vr_sl h (by omega) (by omega)⟩
    · try simp only [decide_eq_true_eq, decide_eq_false_iff_not, Bool.not_eq_true', Bool.not_eq_false', Bool.and_eq_true, Bool.or_eq_true, Bool.and_eq_false_iff, Bool.or_eq_false_iff, beq_iff_eq, bne_iff_ne, beq_eq_false_iff_ne, bne_eq_false_iff_eq, ne_eq, Decidable.not_not, Bool.decide_eq_true] at h2_
      first | done | omega | (exfalso; revert h2_; simp; (first | done | omega))

-- slices.Concat[impl.File,impl.Spot]
theorem concatF_c {l m : List Spot} {lb mb c' d' qb c2 : Nat} {H : AHeap} (hq : H.blk qb = some (.cells [.slice (some ⟨lb, 0, none⟩) l.length c', .slice (some ⟨mb, 0, none⟩) m.length d'] 1)) (hh0 : Sl H spot 2 (.slice (some ⟨lb, 0, none⟩) l.length c') l) (hm0 : Sl H spot 2 (.slice (some ⟨mb, 0, none⟩) m.length d') m) (h1 : 1 ≤ l.length) (hl : l.length ≤ 100) (hml : m.length ≤ 100) : ACd Try.prog 86 [.slice (some ⟨qb, 0, none⟩) 2 c2] H (.slice (some ⟨H.next, 0, none⟩) (l.length + m.length) (l.length + m.length + 1)) (H.push (.cells (fl spot l ++ fl spot m) 2)) := by
  have hltq := AHeap.lt hq
  refine ac_gcs (fun _ => by rw [← fl_app]; exact vrl_fl spot_plain _ _) (ac_body Try.func86 rfl Try.ntmps86 rfl ?_)
  refine aw_seq ?_
  refine aw_region ?_
  refine al_opd rfl rfl rfl (ao_as (v := .slice _ _ _) rfl) ?_
  refine al_nilT ?_
  refine aw_seq ?_
  refine aw_region ?_
  refine al_opd rfl rfl rfl (ao_as (v := .int _ _) rfl) ?_
  refine al_nilT ?_
  refine aw_seq ?_
  refine aw_seq ?_
  refine aw_region ?_
  refine al_opd rfl rfl rfl (ao_mv (v := .slice _ _ _) rfl) ?_
  first | refine al_opd rfl rfl rfl (ao_lenS Try.underlying103 (by rfl)) ?_ | refine al_opd rfl rfl rfl (ao_lenN Try.underlying103 (by rfl)) ?_
  refine al_opd rfl rfl rfl (ao_mv (v := .int _ _) rfl) ?_
  refine al_nilT ?_
  refine aw_block ?_
  refine aw_loop (fun (gk : Nat) (fr : AFr) (G : AHeap) => ∃ get : Nat → Value, fr = ⟨36, get⟩ ∧ (∃ i : Nat, gk = 2 - i ∧ H = G ∧ get 0 = .slice (some ⟨qb, 0, none⟩) 2 c2 ∧ get 9 = .slice (some ⟨qb, 0, none⟩) 2 c2 ∧ get 10 = .int .i64 2 ∧ get 11 = .int .i64 i ∧ ((i = 0 ∧ get 3 = .int .i64 0) ∨ (i = 1 ∧ get 3 = .int .i64 (0 + (l.length : Int))) ∨ (i = 2 ∧ get 3 = .int .i64 (0 + (l.length : Int) + (m.length : Int)))))) (2) ⟨_, rfl, ?_⟩ ?_
  · exact ⟨0, rfl, rfl, rfl, rfl, rfl, rfl, .inl ⟨rfl, rfl⟩⟩
  · rintro gk fr G ⟨get, rfl, i, rfl, rfl, g0, g9, g10, g11, hcs⟩
    refine aw_slot (d := 0) (v := .slice (some ⟨qb, 0, none⟩) 2 c2) (by first | assumption | rfl) ?_
    refine aw_slot (d := 9) (v := .slice (some ⟨qb, 0, none⟩) 2 c2) (by first | assumption | rfl) ?_
    refine aw_slot (d := 10) (v := .int .i64 2) (by first | assumption | rfl) ?_
    refine aw_slot (d := 11) (v := .int .i64 i) (by first | assumption | rfl) ?_
    rcases hcs with ⟨rfl, g3⟩ | ⟨rfl, g3⟩ | ⟨rfl, g3⟩
    · try skip
      refine aw_slot (d := 3) (v := .int .i64 (0)) (by first | assumption | rfl) ?_
      refine aw_seq ?_
      refine aw_region ?_
      refine al_opd rfl rfl rfl (ao_lss rfl rfl) ?_
      refine al_nilT ?_
      refine aw_seq ?_
      refine aw_cond rfl (fun h1_ => ?_) (fun h1_ => ?_)
      · try simp only [decide_eq_true_eq, decide_eq_false_iff_not, Bool.not_eq_true', Bool.not_eq_false', Bool.and_eq_true, Bool.or_eq_true, Bool.and_eq_false_iff, Bool.or_eq_false_iff, beq_iff_eq, bne_iff_ne, beq_eq_false_iff_ne, bne_eq_false_iff_eq, ne_eq, Decidable.not_not, Bool.decide_eq_true] at h1_
        refine aw_skipT ?_
        refine aw_seq ?_
        refine aw_block ?_
        refine aw_seq ?_
        refine aw_region ?_
        first | refine al_opd rfl rfl rfl (ao_indexAddrS Try.underlying103 Try.sizeOf26 rfl rfl (by first | omega | decide | (simp; omega)) (by first | omega | decide | (simp; omega))) ?_
        refine al_opd rfl rfl rfl (ao_load (v := .slice _ _ _) Try.isAgg26 (by rfl) (by ((repeat (first | exact blk_push_new _ _ | assumption | apply blk_push_old | apply blk_set_same | refine (blk_set_ne (by first | assumption | omega | (simp only [next_push, next_set, next_kill, ne_eq]; omega))).trans ?_ | refine (blk_kill_ne (by first | assumption | omega | (simp only [next_push, next_set, next_kill, ne_eq]; omega))).trans ?_)); (first | done | fail))) (by rfl) (by first | rfl | (simp; (first | done | fail)))) ?_
        refine al_opd rfl rfl rfl (ao_as (v := .slice _ _ _) rfl) ?_
        refine al_nilT ?_
        refine aw_seq ?_
        refine aw_region ?_
        refine al_opd rfl rfl rfl (ao_mv (v := .int _ _) rfl) ?_
        refine al_opd rfl rfl rfl (ao_mv (v := .slice _ _ _) rfl) ?_
        first | refine al_opd rfl rfl rfl (ao_lenS Try.underlying26 (by rfl)) ?_ | refine al_opd rfl rfl rfl (ao_lenN Try.underlying26 (by rfl)) ?_
        first | refine al_opd rfl rfl rfl ((ao_add rfl rfl).val (nw_i64 (by first | omega | decide) (by first | omega | decide))) ?_ | refine al_opd rfl rfl rfl (ao_add rfl rfl) ?_
        refine al_opd rfl rfl rfl (ao_as (v := .int _ _) rfl) ?_
        refine al_nilT ?_
        refine aw_seq ?_
        refine aw_region ?_
        refine al_opd rfl rfl rfl (ao_mv (v := .int _ _) rfl) ?_
        refine al_opd rfl rfl rfl (ao_lss rfl rfl) ?_
        refine al_nilT ?_
        refine aw_cond rfl (fun h2_ => ?_) (fun h2_ => ?_)
        · try simp only [decide_eq_true_eq, decide_eq_false_iff_not, Bool.not_eq_true', Bool.not_eq_false', Bool.and_eq_true, Bool.or_eq_true, Bool.and_eq_false_iff, Bool.or_eq_false_iff, beq_iff_eq, bne_iff_ne, beq_eq_false_iff_ne, bne_eq_false_iff_eq, ne_eq, Decidable.not_not, Bool.decide_eq_true] at h2_
          first | done | omega | (exfalso; revert h2_; simp; (first | done | omega))
        · try simp only [decide_eq_true_eq, decide_eq_false_iff_not, Bool.not_eq_true', Bool.not_eq_false', Bool.and_eq_true, Bool.or_eq_true, Bool.and_eq_false_iff, Bool.or_eq_false_iff, beq_iff_eq, bne_iff_ne, beq_eq_false_iff_ne, bne_eq_false_iff_eq, ne_eq, Decidable.not_not, Bool.decide_eq_true] at h2_
          refine aw_skipB ?_
          refine thenA_n ?_
          refine aw_region ?_
          first | refine al_opd rfl rfl rfl ((ao_add rfl rfl).val (nw_i64 (by first | omega | decide) (by first | omega | decide))) ?_ | refine al_opd rfl rfl rfl (ao_add rfl rfl) ?_
          refine al_opd rfl rfl rfl (ao_mv (v := .int _ _) rfl) ?_
          refine al_nilT ?_
          exact ⟨_, by omega, _, rfl, 1, rfl, rfl, rfl, rfl, rfl, by rfl, .inr (.inl ⟨rfl, by rfl⟩)⟩
      · try simp only [decide_eq_true_eq, decide_eq_false_iff_not, Bool.not_eq_true', Bool.not_eq_false', Bool.and_eq_true, Bool.or_eq_true, Bool.and_eq_false_iff, Bool.or_eq_false_iff, beq_iff_eq, bne_iff_ne, beq_eq_false_iff_ne, bne_eq_false_iff_eq, ne_eq, Decidable.not_not, Bool.decide_eq_true] at h1_
        first | done | omega | (exfalso; revert h1_; simp; (first | done | omega))
    · try skip
      refine aw_slot (d := 3) (v := .int .i64 (0 + (l.length : Int))) (by first | assumption | rfl) ?_
      refine aw_seq ?_
      refine aw_region ?_
      refine al_opd rfl rfl rfl (ao_lss rfl rfl) ?_
      refine al_nilT ?_
      refine aw_seq ?_
      refine aw_cond rfl (fun h3_ => ?_) (fun h3_ => ?_)
      · try simp only [decide_eq_true_eq, decide_eq_false_iff_not, Bool.not_eq_true', Bool.not_eq_false', Bool.and_eq_true, Bool.or_eq_true, Bool.and_eq_false_iff, Bool.or_eq_false_iff, beq_iff_eq, bne_iff_ne, beq_eq_false_iff_ne, bne_eq_false_iff_eq, ne_eq, Decidable.not_not, Bool.decide_eq_true] at h3_
        refine aw_skipT ?_
        refine aw_seq ?_
        refine aw_block ?_
        refine aw_seq ?_
        refine aw_region ?_
        first | refine al_opd rfl rfl rfl (ao_indexAddrS Try.underlying103 Try.sizeOf26 rfl rfl (by first | omega | decide | (simp; omega)) (by first | omega | decide | (simp; omega))) ?_
        refine al_opd rfl rfl rfl (ao_load (v := .slice _ _ _) Try.isAgg26 (by rfl) (by ((repeat (first | exact blk_push_new _ _ | assumption | apply blk_push_old | apply blk_set_same | refine (blk_set_ne (by first | assumption | omega | (simp only [next_push, next_set, next_kill, ne_eq]; omega))).trans ?_ | refine (blk_kill_ne (by first | assumption | omega | (simp only [next_push, next_set, next_kill, ne_eq]; omega))).trans ?_)); (first | done | fail))) (by rfl) (by first | rfl | (simp; (first | done | fail)))) ?_
        refine al_opd rfl rfl rfl (ao_as (v := .slice _ _ _) rfl) ?_
        refine al_nilT ?_
        refine aw_seq ?_
        refine aw_region ?_
        refine al_opd rfl rfl rfl (ao_mv (v := .int _ _) rfl) ?_
        refine al_opd rfl rfl rfl (ao_mv (v := .slice _ _ _) rfl) ?_
        first | refine al_opd rfl rfl rfl (ao_lenS Try.underlying26 (by rfl)) ?_ | refine al_opd rfl rfl rfl (ao_lenN Try.underlying26 (by rfl)) ?_
        first | refine al_opd rfl rfl rfl ((ao_add rfl rfl).val (nw_i64 (by first | omega | decide) (by first | omega | decide))) ?_ | refine al_opd rfl rfl rfl (ao_add rfl rfl) ?_
        refine al_opd rfl rfl rfl (ao_as (v := .int _ _) rfl) ?_
        refine al_nilT ?_
        refine aw_seq ?_
        refine aw_region ?_
        refine al_opd rfl rfl rfl (ao_mv (v := .int _ _) rfl) ?_
        refine al_opd rfl rfl rfl (ao_lss rfl rfl) ?_
        refine al_nilT ?_
        refine aw_cond rfl (fun h4_ => ?_) (fun h4_ => ?_)
        · try simp only [decide_eq_true_eq, decide_eq_false_iff_not, Bool.not_eq_true', Bool.not_eq_false', Bool.and_eq_true, Bool.or_eq_true, Bool.and_eq_false_iff, Bool.or_eq_false_iff, beq_iff_eq, bne_iff_ne, beq_eq_false_iff_ne, bne_eq_false_iff_eq, ne_eq, Decidable.not_not, Bool.decide_eq_true] at h4_
          first | done | omega | (exfalso; revert h4_; simp; (first | done | omega))
        · try simp only [decide_eq_true_eq, decide_eq_false_iff_not, Bool.not_eq_true', Bool.not_eq_false', Bool.and_eq_true, Bool.or_eq_true, Bool.and_eq_false_iff, Bool.or_eq_false_iff, beq_iff_eq, bne_iff_ne, beq_eq_false_iff_ne, bne_eq_false_iff_eq, ne_eq, Decidable.not_not, Bool.decide_eq_true] at h4_
          refine aw_skipB ?_
          refine thenA_n ?_
          refine aw_region ?_
          first | refine al_opd rfl rfl rfl ((ao_add rfl rfl).val (nw_i64 (by first | omega | decide) (by first | omega | decide))) ?_ | refine al_opd rfl rfl rfl (ao_add rfl rfl) ?_
          refine al_opd rfl rfl rfl (ao_mv (v := .int _ _) rfl) ?_
          refine al_nilT ?_
          exact ⟨_, by omega, _, rfl, 2, rfl, rfl, rfl, rfl, rfl, by rfl, .inr (.inr ⟨rfl, by rfl⟩)⟩
      · try simp only [decide_eq_true_eq, decide_eq_false_iff_not, Bool.not_eq_true', Bool.not_eq_false', Bool.and_eq_true, Bool.or_eq_true, Bool.and_eq_false_iff, Bool.or_eq_false_iff, beq_iff_eq, bne_iff_ne, beq_eq_false_iff_ne, bne_eq_false_iff_eq, ne_eq, Decidable.not_not, Bool.decide_eq_true] at h3_
        first | done | omega | (exfalso; revert h3_; simp; (first | done | omega))
    · try skip
      rw [summ] at g3
      refine aw_slot (d := 3) (v := .int .i64 (((l.length + m.length : Nat) : Int))) (by first | assumption | rfl) ?_
      refine aw_seq ?_
      refine aw_region ?_
      refine al_opd rfl rfl rfl (ao_lss rfl rfl) ?_
      refine al_nilT ?_
      refine aw_seq ?_
      refine aw_cond rfl (fun h5_ => ?_) (fun h5_ => ?_)
      · try simp only [decide_eq_true_eq, decide_eq_false_iff_not, Bool.not_eq_true', Bool.not_eq_false', Bool.and_eq_true, Bool.or_eq_true, Bool.and_eq_false_iff, Bool.or_eq_false_iff, beq_iff_eq, bne_iff_ne, beq_eq_false_iff_ne, bne_eq_false_iff_eq, ne_eq, Decidable.not_not, Bool.decide_eq_true] at h5_
        first | done | omega | (exfalso; revert h5_; simp; (first | done | omega))
      · try simp only [decide_eq_true_eq, decide_eq_false_iff_not, Bool.not_eq_true', Bool.not_eq_false', Bool.and_eq_true, Bool.or_eq_true, Bool.and_eq_false_iff, Bool.or_eq_false_iff, beq_iff_eq, bne_iff_ne, beq_eq_false_iff_ne, bne_eq_false_iff_eq, ne_eq, Decidable.not_not, Bool.decide_eq_true] at h5_
        refine aw_exit ?_
        refine thenA_x ?_
        refine thenA_x ?_
        refine blockA_hit ?_
        refine thenA_n ?_
        refine aw_seq ?_
        refine aw_region ?_
        refine al_opd rfl rfl rfl (ao_mv (v := .int _ _) rfl) ?_
        refine al_opd rfl rfl rfl (ao_calld (growF_c (n := l.length + m.length) (by omega) (by omega)) Try.call102 rfl rfl) ?_
        refine al_opd rfl rfl rfl (ao_as (v := .slice _ _ _) rfl) ?_
        refine al_nilT ?_
        refine aw_seq ?_
        refine aw_seq ?_
        refine aw_region ?_
        refine al_opd rfl rfl rfl (ao_mv (v := .slice _ _ _) rfl) ?_
        first | refine al_opd rfl rfl rfl (ao_lenS Try.underlying103 (by rfl)) ?_ | refine al_opd rfl rfl rfl (ao_lenN Try.underlying103 (by rfl)) ?_
        refine al_opd rfl rfl rfl (ao_mv (v := .int _ _) rfl) ?_
        refine al_nilT ?_
        refine aw_block ?_
        refine aw_loop (fun (gk : Nat) (fr : AFr) (G : AHeap) => ∃ get : Nat → Value, fr = ⟨36, get⟩ ∧ (∃ (i n pb c : Nat) (cs : List Value), gk = 2 - i ∧ Same H.next H G ∧ H.next ≤ pb ∧ pb < G.next ∧ G.blk pb = some (.cells cs 2) ∧ n ≤ c ∧ get 25 = .slice (some ⟨qb, 0, none⟩) 2 c2 ∧ get 26 = .int .i64 2 ∧ get 27 = .int .i64 i ∧ get 6 = .slice (some ⟨pb, 0, none⟩) n c ∧ ((i = 0 ∧ n = 0 ∧ cs = []) ∨ (i = 1 ∧ n = l.length ∧ cs = fl spot l) ∨ (i = 2 ∧ n = l.length + m.length ∧ cs = fl spot l ++ fl spot m)))) (2) ⟨_, rfl, ?_⟩ ?_
        · refine ⟨0, 0, H.next, 1, [], rfl, by (repeat (first | exact Same.refl _ _ | assumption | refine Same.push ?_ (by (first | exact Nat.le_refl _ | omega | (simp only [next_push, next_set, next_kill]; omega))) _ | refine Same.set ?_ (by (first | exact Nat.le_refl _ | omega | (simp only [next_push, next_set, next_kill]; omega))) _ | refine Same.kill ?_ (by (first | exact Nat.le_refl _ | omega | (simp only [next_push, next_set, next_kill]; omega))))), ?_, ?_, by ((repeat (first | exact blk_push_new _ _ | assumption | apply blk_push_old | apply blk_set_same | refine (blk_set_ne (by first | assumption | omega | (simp only [next_push, next_set, next_kill, ne_eq]; omega))).trans ?_ | refine (blk_kill_ne (by first | assumption | omega | (simp only [next_push, next_set, next_kill, ne_eq]; omega))).trans ?_)); (first | done | fail)), by omega, rfl, rfl, rfl, rfl, .inl ⟨rfl, rfl, rfl⟩⟩ <;> (first | omega | (simp only [next_push, next_set, next_kill]; omega))
        · rintro gk fr G ⟨get, rfl, i, n, pb, c, cs, rfl, hG, hpb, hlt, hkb, hnc, g25, g26, g27, g6, hcs⟩
          have hqG : G.blk qb = some (.cells [.slice (some ⟨lb, 0, none⟩) l.length c', .slice (some ⟨mb, 0, none⟩) m.length d'] 1) := (hG _ hltq).trans hq
          have hll : (fl spot l).length = l.length * 2 := fl_len spot_len l
          have hlm : (fl spot m).length = m.length * 2 := fl_len spot_len m
          refine aw_slot (d := 25) (v := .slice (some ⟨qb, 0, none⟩) 2 c2) (by first | assumption | rfl) ?_
          refine aw_slot (d := 26) (v := .int .i64 2) (by first | assumption | rfl) ?_
          refine aw_slot (d := 27) (v := .int .i64 i) (by first | assumption | rfl) ?_
          refine aw_slot (d := 6) (v := .slice (some ⟨pb, 0, none⟩) n c) (by first | assumption | rfl) ?_
          rcases hcs with ⟨rfl, rfl, rfl⟩ | ⟨rfl, rfl, rfl⟩ | ⟨rfl, rfl, rfl⟩
          · try skip
            have hsx : Sl G spot 2 (.slice (some ⟨lb, 0, none⟩) l.length c') l := hh0.mono hG
            refine aw_seq ?_
            refine aw_region ?_
            refine al_opd rfl rfl rfl (ao_lss rfl rfl) ?_
            refine al_nilT ?_
            refine aw_seq ?_
            refine aw_cond rfl (fun h6_ => ?_) (fun h6_ => ?_)
            · try simp only [decide_eq_true_eq, decide_eq_false_iff_not, Bool.not_eq_true', Bool.not_eq_false', Bool.and_eq_true, Bool.or_eq_true, Bool.and_eq_false_iff, Bool.or_eq_false_iff, beq_iff_eq, bne_iff_ne, beq_eq_false_iff_ne, bne_eq_false_iff_eq, ne_eq, Decidable.not_not, Bool.decide_eq_true] at h6_
              refine aw_skipT ?_
              refine aw_seq ?_
              refine aw_block ?_
              refine aw_seq ?_
              refine aw_region ?_
              first | refine al_opd rfl rfl rfl (ao_indexAddrS Try.underlying103 Try.sizeOf26 rfl rfl (by first | omega | decide | (simp; omega)) (by first | omega | decide | (simp; omega))) ?_
              refine al_opd rfl rfl rfl (ao_load (v := .slice _ _ _) Try.isAgg26 (by rfl) (by ((repeat (first | exact blk_push_new _ _ | assumption | apply blk_push_old | apply blk_set_same | refine (blk_set_ne (by first | assumption | omega | (simp only [next_push, next_set, next_kill, ne_eq]; omega))).trans ?_ | refine (blk_kill_ne (by first | assumption | omega | (simp only [next_push, next_set, next_kill, ne_eq]; omega))).trans ?_)); (first | done | fail))) (by rfl) (by first | rfl | (simp; (first | done | fail)))) ?_
              refine al_opd rfl rfl rfl (ao_as (v := .slice _ _ _) rfl) ?_
              refine al_nilT ?_
              refine aw_region ?_
              refine al_opd rfl rfl rfl (ao_mv (v := .slice _ _ _) rfl) ?_
              refine al_opd rfl rfl rfl (ao_mv (v := .slice _ _ _) rfl) ?_
              refine al_opd rfl rfl rfl (ao_appC Try.underlying26 ⟨_, Try.underlying26⟩ elem63 (by rfl) (by rfl) (by ((repeat (first | exact blk_push_new _ _ | assumption | apply blk_push_old | apply blk_set_same | refine (blk_set_ne (by first | assumption | omega | (simp only [next_push, next_set, next_kill, ne_eq]; omega))).trans ?_ | refine (blk_kill_ne (by first | assumption | omega | (simp only [next_push, next_set, next_kill, ne_eq]; omega))).trans ?_)); (first | done | fail))) (by first | rfl | (simp; done) | omega) (hsx.src spot_len (by decide)) (spot_ones _) (by omega) (by omega)) ?_
              refine al_opd rfl rfl rfl (ao_as (v := .slice _ _ _) rfl) ?_
              refine al_nilB ?_
              refine thenA_n ?_
              refine aw_region ?_
              first | refine al_opd rfl rfl rfl ((ao_add rfl rfl).val (nw_i64 (by first | omega | decide) (by first | omega | decide))) ?_ | refine al_opd rfl rfl rfl (ao_add rfl rfl) ?_
              refine al_opd rfl rfl rfl (ao_mv (v := .int _ _) rfl) ?_
              refine al_nilT ?_
              refine ⟨_, ?_, _, rfl, 1, 0 + l.length, _, 0 + l.length + 1, fl spot l, rfl, by (repeat (first | exact Same.refl _ _ | assumption | refine Same.push ?_ (by (first | exact Nat.le_refl _ | omega | (simp only [next_push, next_set, next_kill]; omega))) _ | refine Same.set ?_ (by (first | exact Nat.le_refl _ | omega | (simp only [next_push, next_set, next_kill]; omega))) _ | refine Same.kill ?_ (by (first | exact Nat.le_refl _ | omega | (simp only [next_push, next_set, next_kill]; omega))))), ?_, ?_, by exact (by ((repeat (first | exact blk_push_new _ _ | assumption | apply blk_push_old | apply blk_set_same | refine (blk_set_ne (by first | assumption | omega | (simp only [next_push, next_set, next_kill, ne_eq]; omega))).trans ?_ | refine (blk_kill_ne (by first | assumption | omega | (simp only [next_push, next_set, next_kill, ne_eq]; omega))).trans ?_)); (first | done | fail))), Nat.le_succ _, rfl, rfl, by rfl, by rfl, .inr (.inl ⟨rfl, Nat.zero_add _, rfl⟩)⟩
              · omega
              · (first | omega | (simp only [next_push, next_set, next_kill]; omega))
              · (first | omega | (simp only [next_push, next_set, next_kill]; omega))
            · try simp only [decide_eq_true_eq, decide_eq_false_iff_not, Bool.not_eq_true', Bool.not_eq_false', Bool.and_eq_true, Bool.or_eq_true, Bool.and_eq_false_iff, Bool.or_eq_false_iff, beq_iff_eq, bne_iff_ne, beq_eq_false_iff_ne, bne_eq_false_iff_eq, ne_eq, Decidable.not_not, Bool.decide_eq_true] at h6_
              first | done | omega | (exfalso; revert h6_; simp; (first | done | omega))
          · try skip
            have hsx : Sl G spot 2 (.slice (some ⟨mb, 0, none⟩) m.length d') m := hm0.mono hG
            refine aw_seq ?_
            refine aw_region ?_
            refine al_opd rfl rfl rfl (ao_lss rfl rfl) ?_
            refine al_nilT ?_
            refine aw_seq ?_
            refine aw_cond rfl (fun h7_ => ?_) (fun h7_ => ?_)
            · try simp only [decide_eq_true_eq, decide_eq_false_iff_not, Bool.not_eq_true', Bool.not_eq_false', Bool.and_eq_true, Bool.or_eq_true, Bool.and_eq_false_iff, Bool.or_eq_false_iff, beq_iff_eq, bne_iff_ne, beq_eq_false_iff_ne, bne_eq_false_iff_eq, ne_eq, Decidable.not_not, Bool.decide_eq_true] at h7_
              refine aw_skipT ?_
              refine aw_seq ?_
              refine aw_block ?_
              refine aw_seq ?_
              refine aw_region ?_
              first | refine al_opd rfl rfl rfl (ao_indexAddrS Try.underlying103 Try.sizeOf26 rfl rfl (by first | omega | decide | (simp; omega)) (by first | omega | decide | (simp; omega))) ?_
              refine al_opd rfl rfl rfl (ao_load (v := .slice _ _ _) Try.isAgg26 (by rfl) (by ((repeat (first | exact blk_push_new _ _ | assumption | apply blk_push_old | apply blk_set_same | refine (blk_set_ne (by first | assumption | omega | (simp only [next_push, next_set, next_kill, ne_eq]; omega))).trans ?_ | refine (blk_kill_ne (by first | assumption | omega | (simp only [next_push, next_set, next_kill, ne_eq]; omega))).trans ?_)); (first | done | fail))) (by rfl) (by first | rfl | (simp; (first | done | fail)))) ?_
              refine al_opd rfl rfl rfl (ao_as (v := .slice _ _ _) rfl) ?_
              refine al_nilT ?_
              refine aw_region ?_
              refine al_opd rfl rfl rfl (ao_mv (v := .slice _ _ _) rfl) ?_
              refine al_opd rfl rfl rfl (ao_mv (v := .slice _ _ _) rfl) ?_
              refine al_opd rfl rfl rfl (ao_appC Try.underlying26 ⟨_, Try.underlying26⟩ elem63 (by rfl) (by rfl) (by ((repeat (first | exact blk_push_new _ _ | assumption | apply blk_push_old | apply blk_set_same | refine (blk_set_ne (by first | assumption | omega | (simp only [next_push, next_set, next_kill, ne_eq]; omega))).trans ?_ | refine (blk_kill_ne (by first | assumption | omega | (simp only [next_push, next_set, next_kill, ne_eq]; omega))).trans ?_)); (first | done | fail))) (by first | rfl | (simp; done) | omega) (hsx.src spot_len (by decide)) (spot_ones _) (by omega) (by omega)) ?_
              refine al_opd rfl rfl rfl (ao_as (v := .slice _ _ _) rfl) ?_
              refine al_nilB ?_
              refine thenA_n ?_
              refine aw_region ?_
              first | refine al_opd rfl rfl rfl ((ao_add rfl rfl).val (nw_i64 (by first | omega | decide) (by first | omega | decide))) ?_ | refine al_opd rfl rfl rfl (ao_add rfl rfl) ?_
              refine al_opd rfl rfl rfl (ao_mv (v := .int _ _) rfl) ?_
              refine al_nilT ?_
              refine ⟨_, ?_, _, rfl, 2, l.length + m.length, _, l.length + m.length + 1, fl spot l ++ fl spot m, rfl, by (repeat (first | exact Same.refl _ _ | assumption | refine Same.push ?_ (by (first | exact Nat.le_refl _ | omega | (simp only [next_push, next_set, next_kill]; omega))) _ | refine Same.set ?_ (by (first | exact Nat.le_refl _ | omega | (simp only [next_push, next_set, next_kill]; omega))) _ | refine Same.kill ?_ (by (first | exact Nat.le_refl _ | omega | (simp only [next_push, next_set, next_kill]; omega))))), ?_, ?_, by exact (by ((repeat (first | exact blk_push_new _ _ | assumption | apply blk_push_old | apply blk_set_same | refine (blk_set_ne (by first | assumption | omega | (simp only [next_push, next_set, next_kill, ne_eq]; omega))).trans ?_ | refine (blk_kill_ne (by first | assumption | omega | (simp only [next_push, next_set, next_kill, ne_eq]; omega))).trans ?_)); (first | done | fail))), Nat.le_succ _, rfl, rfl, by rfl, by rfl, .inr (.inr ⟨rfl, rfl, rfl⟩)⟩
              · omega
              · (first | omega | (simp only [next_push, next_set, next_kill]; omega))
              · (first | omega | (simp only [next_push, next_set, next_kill]; omega))
            · try simp only [decide_eq_true_eq, decide_eq_false_iff_not, Bool.not_eq_true', Bool.not_eq_false', Bool.and_eq_true, Bool.or_eq_true, Bool.and_eq_false_iff, Bool.or_eq_false_iff, beq_iff_eq, bne_iff_ne, beq_eq_false_iff_ne, bne_eq_false_iff_eq, ne_eq, Decidable.not_not, Bool.decide_eq_true] at h7_
              first | done | omega | (exfalso; revert h7_; simp; (first | done | omega))
          · try skip
            refine aw_seq ?_
            refine aw_region ?_
            refine al_opd rfl rfl rfl (ao_lss rfl rfl) ?_
            refine al_nilT ?_
            refine aw_seq ?_
            refine aw_cond rfl (fun h8_ => ?_) (fun h8_ => ?_)
            · try simp only [decide_eq_true_eq, decide_eq_false_iff_not, Bool.not_eq_true', Bool.not_eq_false', Bool.and_eq_true, Bool.or_eq_true, Bool.and_eq_false_iff, Bool.or_eq_false_iff, beq_iff_eq, bne_iff_ne, beq_eq_false_iff_ne, bne_eq_false_iff_eq, ne_eq, Decidable.not_not, Bool.decide_eq_true] at h8_
              first | done | omega | (exfalso; revert h8_; simp; (first | done | omega))
            · try simp only [decide_eq_true_eq, decide_eq_false_iff_not, Bool.not_eq_true', Bool.not_eq_false', Bool.and_eq_true, Bool.or_eq_true, Bool.and_eq_false_iff, Bool.or_eq_false_iff, beq_iff_eq, bne_iff_ne, beq_eq_false_iff_ne, bne_eq_false_iff_eq, ne_eq, Decidable.not_not, Bool.decide_eq_true] at h8_
              refine aw_exit ?_
              refine thenA_x ?_
              refine thenA_x ?_
              refine blockA_hit ?_
              refine thenA_n ?_
              refine aw_seq ?_
              refine aw_region ?_
              refine al_opd rfl rfl rfl (ao_mv (v := .slice _ _ _) rfl) ?_
              refine al_opd rfl rfl rfl (ao_as (v := .slice _ _ _) rfl) ?_
              refine al_nilT ?_
              refine aw_ret ?_
              refine ends1 rfl (rv_tmp (v := .slice _ _ _) rfl) ?_
              exact ⟨hG, pb, hpb, hkb, fun ρ h => vr_sl h (by omega) (by omega)⟩

end Go.Proofs.Ytokgcdacdmllbaa
