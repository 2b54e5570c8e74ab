/- Contracts of the program's functions over abstract heaps. -/
import Derived.Test.YtohaokdgokknaaaTab
namespace Go.Proofs.Ytohaokdgokknaaa
open Go Go.AW Go.Proofs
set_option linter.unusedVariables false
set_option linter.unusedSimpArgs false
set_option maxRecDepth 100000
set_option maxHeartbeats 2000000

-- laws.szInt16S
theorem szI16_c {α : Type} {e : α → List Value} {l : List α} {v : Value} {k : Int} {H : AHeap} (ha : Sl H e 1 v l) (hl : l.length ≤ 9223372036854775807) (hk : k = 0 ∨ 0 ≤ k ∧ k ≤ 1048576) : ACd Try.prog 73 [v, .int .i64 k] H (.int .i64 (if k - l.length < 0 then -1 else k - l.length)) (H) := by
  refine ac_gc0 (fun β => VR.plainT β (by first | rfl | simp [plainT, plainV, plain1])) (ac_body Try.func73 rfl Try.ntmps73 rfl ?_)
  refine aw_seq ?_
  refine aw_region ?_
  refine al_opd rfl rfl rfl (ao_as (v := .int _ _) rfl) ?_
  refine al_nilT ?_
  refine aw_seq ?_
  refine aw_region ?_
  refine al_opd rfl rfl rfl (ao_mv (v := .int _ _) rfl) ?_
  first | refine al_opd rfl rfl rfl (ao_mv (v := .slice _ _ _) rfl) ?_ | refine al_opd rfl rfl rfl (ao_mv (v := v) rfl) ?_
  first | refine al_opd rfl rfl rfl (ao_lenS Try.underlying32 (by rfl)) ?_ | refine al_opd rfl rfl rfl (ao_lenN Try.underlying32 (by rfl)) ?_ | refine al_opd rfl rfl rfl (ao_lenV Try.underlying32 rfl ha) ?_
  first | refine al_opd rfl rfl rfl ((ao_sub rfl rfl).val (nw_i64 (by first | omega | decide) (by first | omega | decide))) ?_ | refine al_opd rfl rfl rfl (ao_sub rfl rfl) ?_
  refine al_opd rfl rfl rfl (ao_as (v := .int _ _) rfl) ?_
  refine al_nilT ?_
  refine aw_seq ?_
  refine aw_seq ?_
  refine aw_region ?_
  refine al_opd rfl rfl rfl (ao_mv (v := .int _ _) rfl) ?_
  refine al_opd rfl rfl rfl (ao_lss rfl rfl) ?_
  refine al_nilT ?_
  refine aw_cond rfl (fun h1_ => ?_) (fun h1_ => ?_)
  · try simp only [decide_eq_true_eq, decide_eq_false_iff_not, Bool.not_eq_true', Bool.not_eq_false', Bool.and_eq_true, Bool.or_eq_true, Bool.and_eq_false_iff, Bool.or_eq_false_iff, beq_iff_eq, bne_iff_ne, beq_eq_false_iff_ne, bne_eq_false_iff_eq, ne_eq, Decidable.not_not, Bool.decide_eq_true] at h1_
    refine aw_seq ?_
    refine aw_region ?_
    refine al_opd rfl rfl rfl (ao_as (v := .int _ _) rfl) ?_
    refine al_nilT ?_
    refine aw_ret ?_
    refine thenA_r ?_
    refine ends1 rfl (rv_tmp (v := .int _ _) rfl) ?_
    exact ⟨by rw [if_pos (by omega)], by (repeat (first | exact Same.refl _ _ | assumption | refine Same.push ?_ (by (first | exact Nat.le_refl _ | omega | (simp only [next_push, next_set, next_kill]; omega))) _ | refine Same.set ?_ (by (first | exact Nat.le_refl _ | omega | (simp only [next_push, next_set, next_kill]; omega))) _ | refine Same.kill ?_ (by (first | exact Nat.le_refl _ | omega | (simp only [next_push, next_set, next_kill]; omega)))))⟩
  · try simp only [decide_eq_true_eq, decide_eq_false_iff_not, Bool.not_eq_true', Bool.not_eq_false', Bool.and_eq_true, Bool.or_eq_true, Bool.and_eq_false_iff, Bool.or_eq_false_iff, beq_iff_eq, bne_iff_ne, beq_eq_false_iff_ne, bne_eq_false_iff_eq, ne_eq, Decidable.not_not, Bool.decide_eq_true] at h1_
    refine aw_skipT ?_
    refine aw_seq ?_
    refine aw_region ?_
    refine al_opd rfl rfl rfl (ao_mv (v := .int _ _) rfl) ?_
    refine al_opd rfl rfl rfl (ao_as (v := .int _ _) rfl) ?_
    refine al_nilT ?_
    refine aw_ret ?_
    refine ends1 rfl (rv_tmp (v := .int _ _) rfl) ?_
    exact ⟨by rw [if_neg (by omega)], by (repeat (first | exact Same.refl _ _ | assumption | refine Same.push ?_ (by (first | exact Nat.le_refl _ | omega | (simp only [next_push, next_set, next_kill]; omega))) _ | refine Same.set ?_ (by (first | exact Nat.le_refl _ | omega | (simp only [next_push, next_set, next_kill]; omega))) _ | refine Same.kill ?_ (by (first | exact Nat.le_refl _ | omega | (simp only [next_push, next_set, next_kill]; omega)))))⟩

-- laws.eqInt64S
theorem eqI64_c {v u : Value} {l m : List Int} {H : AHeap} (ha : Sl H i64 1 v l) (hb : Sl H i64 1 u m) (hl : l.length ≤ 4194304) : ACd Try.prog 41 [v, u] H (.bool (decide (l = m))) (H) := by
  refine ac_gc0 (fun β => VR.plainT β (by first | rfl | simp [plainT, plainV, plain1])) (ac_body Try.func41 rfl Try.ntmps41 rfl ?_)
  refine aw_seq ?_
  refine aw_region ?_
  refine al_opd rfl rfl rfl (ao_as (v := .bool _) rfl) ?_
  refine al_nilT ?_
  refine aw_seq ?_
  refine aw_seq ?_
  refine aw_region ?_
  first | refine al_opd rfl rfl rfl (ao_mv (v := .slice _ _ _) rfl) ?_ | refine al_opd rfl rfl rfl (ao_mv (v := v) rfl) ?_ | refine al_opd rfl rfl rfl (ao_mv (v := u) rfl) ?_
  first | refine al_opd rfl rfl rfl (ao_lenS Try.underlying49 (by rfl)) ?_ | refine al_opd rfl rfl rfl (ao_lenN Try.underlying49 (by rfl)) ?_ | refine al_opd rfl rfl rfl (ao_lenV Try.underlying49 rfl ha) ?_ | refine al_opd rfl rfl rfl (ao_lenV Try.underlying49 rfl hb) ?_
  first | refine al_opd rfl rfl rfl (ao_mv (v := .slice _ _ _) rfl) ?_ | refine al_opd rfl rfl rfl (ao_mv (v := v) rfl) ?_ | refine al_opd rfl rfl rfl (ao_mv (v := u) rfl) ?_
  first | refine al_opd rfl rfl rfl (ao_lenS Try.underlying49 (by rfl)) ?_ | refine al_opd rfl rfl rfl (ao_lenN Try.underlying49 (by rfl)) ?_ | refine al_opd rfl rfl rfl (ao_lenV Try.underlying49 rfl ha) ?_ | refine al_opd rfl rfl rfl (ao_lenV Try.underlying49 rfl hb) ?_
  refine al_opd rfl rfl rfl (ao_neq rfl rfl) ?_
  refine al_nilT ?_
  refine aw_cond rfl (fun h1_ => ?_) (fun h1_ => ?_)
  · try simp only [decide_eq_true_eq, decide_eq_false_iff_not, Bool.not_eq_true', Bool.not_eq_false', Bool.and_eq_true, Bool.or_eq_true, Bool.and_eq_false_iff, Bool.or_eq_false_iff, beq_iff_eq, bne_iff_ne, beq_eq_false_iff_ne, bne_eq_false_iff_eq, ne_eq, Decidable.not_not, Bool.decide_eq_true] at h1_
    refine aw_seq ?_
    refine aw_region ?_
    refine al_opd rfl rfl rfl (ao_as (v := .bool _) rfl) ?_
    refine al_nilT ?_
    refine aw_ret ?_
    refine thenA_r ?_
    refine ends1 rfl (rv_tmp (v := .bool _) rfl) ?_
    exact ⟨by rw [decide_eq_false (fun e => h1_ (by rw [e]))], by (repeat (first | exact Same.refl _ _ | assumption | refine Same.push ?_ (by (first | exact Nat.le_refl _ | omega | (simp only [next_push, next_set, next_kill]; omega))) _ | refine Same.set ?_ (by (first | exact Nat.le_refl _ | omega | (simp only [next_push, next_set, next_kill]; omega))) _ | refine Same.kill ?_ (by (first | exact Nat.le_refl _ | omega | (simp only [next_push, next_set, next_kill]; omega)))))⟩
  · try simp only [decide_eq_true_eq, decide_eq_false_iff_not, Bool.not_eq_true', Bool.not_eq_false', Bool.and_eq_true, Bool.or_eq_true, Bool.and_eq_false_iff, Bool.or_eq_false_iff, beq_iff_eq, bne_iff_ne, beq_eq_false_iff_ne, bne_eq_false_iff_eq, ne_eq, Decidable.not_not, Bool.decide_eq_true] at h1_
    refine aw_skipT ?_
    refine aw_seq ?_
    refine aw_seq ?_
    refine aw_region ?_
    refine al_opd rfl rfl rfl (ao_as (v := .int _ _) rfl) ?_
    refine al_nilT ?_
    refine aw_block ?_
    refine aw_loop (fun (gk : Nat) (fr : AFr) (G : AHeap) => ∃ get : Nat → Value, fr = ⟨26, get⟩ ∧ (∃ i : Nat, i ≤ l.length ∧ gk = l.length - i ∧ G = H ∧ get 0 = v ∧ get 1 = u ∧ get 5 = .int .i64 i ∧ l.take i = m.take i)) (l.length) ⟨_, rfl, ?_⟩ ?_
    · exact ⟨0, Nat.zero_le _, rfl, rfl, rfl, rfl, rfl, by simp⟩
    · rintro gk fr G ⟨get, rfl, i, hi, rfl, rfl, g0, g1, g5, hq⟩
      have hlen : l.length = m.length := by omega
      refine aw_slot (d := 0) (v := v) (by first | assumption | rfl) ?_
      refine aw_slot (d := 1) (v := u) (by first | assumption | rfl) ?_
      refine aw_slot (d := 5) (v := .int .i64 i) (by first | assumption | rfl) ?_
      refine aw_seq ?_
      refine aw_seq ?_
      refine aw_region ?_
      refine al_opd rfl rfl rfl (ao_mv (v := .int _ _) rfl) ?_
      first | refine al_opd rfl rfl rfl (ao_mv (v := .slice _ _ _) rfl) ?_ | refine al_opd rfl rfl rfl (ao_mv (v := v) rfl) ?_ | refine al_opd rfl rfl rfl (ao_mv (v := u) rfl) ?_
      first | refine al_opd rfl rfl rfl (ao_lenS Try.underlying49 (by rfl)) ?_ | refine al_opd rfl rfl rfl (ao_lenN Try.underlying49 (by rfl)) ?_ | refine al_opd rfl rfl rfl (ao_lenV Try.underlying49 rfl ha) ?_ | refine al_opd rfl rfl rfl (ao_lenV Try.underlying49 rfl hb) ?_
      refine al_opd rfl rfl rfl (ao_lss rfl rfl) ?_
      refine al_nilT ?_
      refine aw_cond rfl (fun h2_ => ?_) (fun h2_ => ?_)
      · try simp only [decide_eq_true_eq, decide_eq_false_iff_not, Bool.not_eq_true', Bool.not_eq_false', Bool.and_eq_true, Bool.or_eq_true, Bool.and_eq_false_iff, Bool.or_eq_false_iff, beq_iff_eq, bne_iff_ne, beq_eq_false_iff_ne, bne_eq_false_iff_eq, ne_eq, Decidable.not_not, Bool.decide_eq_true] at h2_
        obtain ⟨x, hx⟩ := get_lt (show i < l.length by omega)
        obtain ⟨y, hy⟩ := get_lt (show i < m.length by omega)
        refine aw_skipT ?_
        refine aw_seq ?_
        refine aw_block ?_
        refine aw_seq ?_
        refine aw_draw (m := 9) mo (by kernel_rfl) rfl ?_
        first | refine dw_opd rfl rfl rfl (ao_mv (v := .slice _ _ _) rfl) ?_ | refine dw_opd rfl rfl rfl (ao_mv (v := v) rfl) ?_ | refine dw_opd rfl rfl rfl (ao_mv (v := u) rfl) ?_
        refine dw_opd rfl rfl rfl (ao_mv (v := .int _ _) rfl) ?_
        first | refine dw_opd rfl rfl rfl (ao_indexAddrS Try.underlying49 Try.sizeOf2 rfl rfl (by first | omega | decide | (simp; omega)) (by first | omega | decide | (simp; omega))) ?_ | refine dw_opd rfl rfl rfl (ao_indexV Try.underlying49 Try.sizeOf2 rfl rfl ha (by first | omega | decide | (simp; omega)) (by first | omega | decide | (simp; omega))) ?_ | refine dw_opd rfl rfl rfl (ao_indexV Try.underlying49 Try.sizeOf2 rfl rfl hb (by first | omega | decide | (simp; omega)) (by first | omega | decide | (simp; omega))) ?_
        first | refine dw_opd rfl rfl rfl (ao_load (v := .int _ _) Try.isAgg2 (by rfl) (by ((repeat (first | exact blk_push_new _ _ | assumption | apply blk_push_old | apply blk_set_same | refine (blk_set_ne (by first | assumption | omega | (simp only [next_push, next_set, next_kill, ne_eq]; omega))).trans ?_ | refine (blk_kill_ne (by first | assumption | omega | (simp only [next_push, next_set, next_kill, ne_eq]; omega))).trans ?_)); (first | done | fail))) (by rfl) (by first | rfl | (simp; (first | done | fail)))) ?_ | refine dw_opd rfl rfl rfl (ao_loadV (j := 0) (u := .int _ _) Try.isAgg2 ha rfl rfl (by assumption) rfl) ?_ | refine dw_opd rfl rfl rfl (ao_loadV (j := 1) (u := .int _ _) Try.isAgg2 ha rfl rfl (by assumption) rfl) ?_ | refine dw_opd rfl rfl rfl (ao_loadV (j := 0) (u := .int _ _) Try.isAgg2 hb rfl rfl (by assumption) rfl) ?_ | refine dw_opd rfl rfl rfl (ao_loadV (j := 1) (u := .int _ _) Try.isAgg2 hb rfl rfl (by assumption) rfl) ?_ | refine dw_opd rfl rfl rfl (ao_loadV (i := 0) (j := 0) (u := .int _ _) Try.isAgg2 ha rfl rfl (by assumption) rfl) ?_ | refine dw_opd rfl rfl rfl (ao_loadV (i := 0) (j := 1) (u := .int _ _) Try.isAgg2 ha rfl rfl (by assumption) rfl) ?_ | refine dw_opd rfl rfl rfl (ao_loadV (i := 0) (j := 0) (u := .int _ _) Try.isAgg2 hb rfl rfl (by assumption) rfl) ?_ | refine dw_opd rfl rfl rfl (ao_loadV (i := 0) (j := 1) (u := .int _ _) Try.isAgg2 hb rfl rfl (by assumption) rfl) ?_
        first | refine dw_opd rfl rfl rfl (ao_mv (v := .slice _ _ _) rfl) ?_ | refine dw_opd rfl rfl rfl (ao_mv (v := v) rfl) ?_ | refine dw_opd rfl rfl rfl (ao_mv (v := u) rfl) ?_
        refine dw_opd rfl rfl rfl (ao_mv (v := .int _ _) rfl) ?_
        first | refine dw_opd rfl rfl rfl (ao_indexAddrS Try.underlying49 Try.sizeOf2 rfl rfl (by first | omega | decide | (simp; omega)) (by first | omega | decide | (simp; omega))) ?_ | refine dw_opd rfl rfl rfl (ao_indexV Try.underlying49 Try.sizeOf2 rfl rfl ha (by first | omega | decide | (simp; omega)) (by first | omega | decide | (simp; omega))) ?_ | refine dw_opd rfl rfl rfl (ao_indexV Try.underlying49 Try.sizeOf2 rfl rfl hb (by first | omega | decide | (simp; omega)) (by first | omega | decide | (simp; omega))) ?_
        first | refine dw_opd rfl rfl rfl (ao_load (v := .int _ _) Try.isAgg2 (by rfl) (by ((repeat (first | exact blk_push_new _ _ | assumption | apply blk_push_old | apply blk_set_same | refine (blk_set_ne (by first | assumption | omega | (simp only [next_push, next_set, next_kill, ne_eq]; omega))).trans ?_ | refine (blk_kill_ne (by first | assumption | omega | (simp only [next_push, next_set, next_kill, ne_eq]; omega))).trans ?_)); (first | done | fail))) (by rfl) (by first | rfl | (simp; (first | done | fail)))) ?_ | refine dw_opd rfl rfl rfl (ao_loadV (j := 0) (u := .int _ _) Try.isAgg2 ha rfl rfl (by assumption) rfl) ?_ | refine dw_opd rfl rfl rfl (ao_loadV (j := 1) (u := .int _ _) Try.isAgg2 ha rfl rfl (by assumption) rfl) ?_ | refine dw_opd rfl rfl rfl (ao_loadV (j := 0) (u := .int _ _) Try.isAgg2 hb rfl rfl (by assumption) rfl) ?_ | refine dw_opd rfl rfl rfl (ao_loadV (j := 1) (u := .int _ _) Try.isAgg2 hb rfl rfl (by assumption) rfl) ?_ | refine dw_opd rfl rfl rfl (ao_loadV (i := 0) (j := 0) (u := .int _ _) Try.isAgg2 ha rfl rfl (by assumption) rfl) ?_ | refine dw_opd rfl rfl rfl (ao_loadV (i := 0) (j := 1) (u := .int _ _) Try.isAgg2 ha rfl rfl (by assumption) rfl) ?_ | refine dw_opd rfl rfl rfl (ao_loadV (i := 0) (j := 0) (u := .int _ _) Try.isAgg2 hb rfl rfl (by assumption) rfl) ?_ | refine dw_opd rfl rfl rfl (ao_loadV (i := 0) (j := 1) (u := .int _ _) Try.isAgg2 hb rfl rfl (by assumption) rfl) ?_
        refine dw_opd rfl rfl rfl (ao_neq rfl rfl) ?_
        refine dw_end ?_
        refine al_nilT ?_
        refine aw_cond rfl (fun h3_ => ?_) (fun h3_ => ?_)
        · try simp only [decide_eq_true_eq, decide_eq_false_iff_not, Bool.not_eq_true', Bool.not_eq_false', Bool.and_eq_true, Bool.or_eq_true, Bool.and_eq_false_iff, Bool.or_eq_false_iff, beq_iff_eq, bne_iff_ne, beq_eq_false_iff_ne, bne_eq_false_iff_eq, ne_eq, Decidable.not_not, Bool.decide_eq_true] at h3_
          refine aw_seq ?_
          refine aw_region ?_
          refine al_opd rfl rfl rfl (ao_as (v := .bool _) rfl) ?_
          refine al_nilT ?_
          refine aw_ret ?_
          refine blockA_r ?_
          refine thenA_r ?_
          refine thenA_r ?_
          refine blockA_r ?_
          refine thenA_r ?_
          refine ends1 rfl (rv_tmp (v := .bool _) rfl) ?_
          exact ⟨by rw [decide_eq_false (ne_at hx hy h3_)], by (repeat (first | exact Same.refl _ _ | assumption | refine Same.push ?_ (by (first | exact Nat.le_refl _ | omega | (simp only [next_push, next_set, next_kill]; omega))) _ | refine Same.set ?_ (by (first | exact Nat.le_refl _ | omega | (simp only [next_push, next_set, next_kill]; omega))) _ | refine Same.kill ?_ (by (first | exact Nat.le_refl _ | omega | (simp only [next_push, next_set, next_kill]; omega)))))⟩
        · try simp only [decide_eq_true_eq, decide_eq_false_iff_not, Bool.not_eq_true', Bool.not_eq_false', Bool.and_eq_true, Bool.or_eq_true, Bool.and_eq_false_iff, Bool.or_eq_false_iff, beq_iff_eq, bne_iff_ne, beq_eq_false_iff_ne, bne_eq_false_iff_eq, ne_eq, Decidable.not_not, Bool.decide_eq_true] at h3_
          refine aw_skipB ?_
          refine thenA_n ?_
          refine aw_region ?_
          refine al_opd rfl rfl rfl (ao_mv (v := .int _ _) rfl) ?_
          first | refine al_opd rfl rfl rfl ((ao_add rfl rfl).val (nw_i64 (by first | omega | decide) (by first | omega | decide))) ?_ | refine al_opd rfl rfl rfl (ao_add rfl rfl) ?_
          refine al_opd rfl rfl rfl (ao_as (v := .int _ _) rfl) ?_
          refine al_nilT ?_
          exact ⟨_, by omega, _, rfl, i + 1, by omega, rfl, rfl, rfl, rfl, by rfl, take_step hq hx (by rw [hy]; exact congrArg some h3_.symm)⟩
      · try simp only [decide_eq_true_eq, decide_eq_false_iff_not, Bool.not_eq_true', Bool.not_eq_false', Bool.and_eq_true, Bool.or_eq_true, Bool.and_eq_false_iff, Bool.or_eq_false_iff, beq_iff_eq, bne_iff_ne, beq_eq_false_iff_ne, bne_eq_false_iff_eq, ne_eq, Decidable.not_not, Bool.decide_eq_true] at h2_
        refine aw_exit ?_
        refine thenA_x ?_
        refine thenA_x ?_
        refine blockA_hit ?_
        refine thenA_n ?_
        refine aw_seq ?_
        refine aw_region ?_
        refine al_opd rfl rfl rfl (ao_as (v := .bool _) rfl) ?_
        refine al_nilT ?_
        refine aw_ret ?_
        refine ends1 rfl (rv_tmp (v := .bool _) rfl) ?_
        exact ⟨by rw [decide_eq_true (take_all hq (by omega) hlen)], by (repeat (first | exact Same.refl _ _ | assumption | refine Same.push ?_ (by (first | exact Nat.le_refl _ | omega | (simp only [next_push, next_set, next_kill]; omega))) _ | refine Same.set ?_ (by (first | exact Nat.le_refl _ | omega | (simp only [next_push, next_set, next_kill]; omega))) _ | refine Same.kill ?_ (by (first | exact Nat.le_refl _ | omega | (simp only [next_push, next_set, next_kill]; omega)))))⟩

-- laws.eqInt16S
theorem eqI16_c {v u : Value} {l m : List Int} {H : AHeap} (ha : Sl H i16 1 v l) (hb : Sl H i16 1 u m) (hl : l.length ≤ 4194304) : ACd Try.prog 76 [v, u] H (.bool (decide (l = m))) (H) := by
  refine ac_gc0 (fun β => VR.plainT β (by first | rfl | simp [plainT, plainV, plain1])) (ac_body Try.func76 rfl Try.ntmps76 rfl ?_)
  refine aw_seq ?_
  refine aw_region ?_
  refine al_opd rfl rfl rfl (ao_as (v := .bool _) rfl) ?_
  refine al_nilT ?_
  refine aw_seq ?_
  refine aw_seq ?_
  refine aw_region ?_
  first | refine al_opd rfl rfl rfl (ao_mv (v := .slice _ _ _) rfl) ?_ | refine al_opd rfl rfl rfl (ao_mv (v := v) rfl) ?_ | refine al_opd rfl rfl rfl (ao_mv (v := u) rfl) ?_
  first | refine al_opd rfl rfl rfl (ao_lenS Try.underlying32 (by rfl)) ?_ | refine al_opd rfl rfl rfl (ao_lenN Try.underlying32 (by rfl)) ?_ | refine al_opd rfl rfl rfl (ao_lenV Try.underlying32 rfl ha) ?_ | refine al_opd rfl rfl rfl (ao_lenV Try.underlying32 rfl hb) ?_
  first | refine al_opd rfl rfl rfl (ao_mv (v := .slice _ _ _) rfl) ?_ | refine al_opd rfl rfl rfl (ao_mv (v := v) rfl) ?_ | refine al_opd rfl rfl rfl (ao_mv (v := u) rfl) ?_
  first | refine al_opd rfl rfl rfl (ao_lenS Try.underlying32 (by rfl)) ?_ | refine al_opd rfl rfl rfl (ao_lenN Try.underlying32 (by rfl)) ?_ | refine al_opd rfl rfl rfl (ao_lenV Try.underlying32 rfl ha) ?_ | refine al_opd rfl rfl rfl (ao_lenV Try.underlying32 rfl hb) ?_
  refine al_opd rfl rfl rfl (ao_neq rfl rfl) ?_
  refine al_nilT ?_
  refine aw_cond rfl (fun h1_ => ?_) (fun h1_ => ?_)
  · try simp only [decide_eq_true_eq, decide_eq_false_iff_not, Bool.not_eq_true', Bool.not_eq_false', Bool.and_eq_true, Bool.or_eq_true, Bool.and_eq_false_iff, Bool.or_eq_false_iff, beq_iff_eq, bne_iff_ne, beq_eq_false_iff_ne, bne_eq_false_iff_eq, ne_eq, Decidable.not_not, Bool.decide_eq_true] at h1_
    refine aw_seq ?_
    refine aw_region ?_
    refine al_opd rfl rfl rfl (ao_as (v := .bool _) rfl) ?_
    refine al_nilT ?_
    refine aw_ret ?_
    refine thenA_r ?_
    refine ends1 rfl (rv_tmp (v := .bool _) rfl) ?_
    exact ⟨by rw [decide_eq_false (fun e => h1_ (by rw [e]))], by (repeat (first | exact Same.refl _ _ | assumption | refine Same.push ?_ (by (first | exact Nat.le_refl _ | omega | (simp only [next_push, next_set, next_kill]; omega))) _ | refine Same.set ?_ (by (first | exact Nat.le_refl _ | omega | (simp only [next_push, next_set, next_kill]; omega))) _ | refine Same.kill ?_ (by (first | exact Nat.le_refl _ | omega | (simp only [next_push, next_set, next_kill]; omega)))))⟩
  · try simp only [decide_eq_true_eq, decide_eq_false_iff_not, Bool.not_eq_true', Bool.not_eq_false', Bool.and_eq_true, Bool.or_eq_true, Bool.and_eq_false_iff, Bool.or_eq_false_iff, beq_iff_eq, bne_iff_ne, beq_eq_false_iff_ne, bne_eq_false_iff_eq, ne_eq, Decidable.not_not, Bool.decide_eq_true] at h1_
    refine aw_skipT ?_
    refine aw_seq ?_
    refine aw_seq ?_
    refine aw_region ?_
    refine al_opd rfl rfl rfl (ao_as (v := .int _ _) rfl) ?_
    refine al_nilT ?_
    refine aw_block ?_
    refine aw_loop (fun (gk : Nat) (fr : AFr) (G : AHeap) => ∃ get : Nat → Value, fr = ⟨26, get⟩ ∧ (∃ i : Nat, i ≤ l.length ∧ gk = l.length - i ∧ G = H ∧ get 0 = v ∧ get 1 = u ∧ get 5 = .int .i64 i ∧ l.take i = m.take i)) (l.length) ⟨_, rfl, ?_⟩ ?_
    · exact ⟨0, Nat.zero_le _, rfl, rfl, rfl, rfl, rfl, by simp⟩
    · rintro gk fr G ⟨get, rfl, i, hi, rfl, rfl, g0, g1, g5, hq⟩
      have hlen : l.length = m.length := by omega
      refine aw_slot (d := 0) (v := v) (by first | assumption | rfl) ?_
      refine aw_slot (d := 1) (v := u) (by first | assumption | rfl) ?_
      refine aw_slot (d := 5) (v := .int .i64 i) (by first | assumption | rfl) ?_
      refine aw_seq ?_
      refine aw_seq ?_
      refine aw_region ?_
      refine al_opd rfl rfl rfl (ao_mv (v := .int _ _) rfl) ?_
      first | refine al_opd rfl rfl rfl (ao_mv (v := .slice _ _ _) rfl) ?_ | refine al_opd rfl rfl rfl (ao_mv (v := v) rfl) ?_ | refine al_opd rfl rfl rfl (ao_mv (v := u) rfl) ?_
      first | refine al_opd rfl rfl rfl (ao_lenS Try.underlying32 (by rfl)) ?_ | refine al_opd rfl rfl rfl (ao_lenN Try.underlying32 (by rfl)) ?_ | refine al_opd rfl rfl rfl (ao_lenV Try.underlying32 rfl ha) ?_ | refine al_opd rfl rfl rfl (ao_lenV Try.underlying32 rfl hb) ?_
      refine al_opd rfl rfl rfl (ao_lss rfl rfl) ?_
      refine al_nilT ?_
      refine aw_cond rfl (fun h2_ => ?_) (fun h2_ => ?_)
      · try simp only [decide_eq_true_eq, decide_eq_false_iff_not, Bool.not_eq_true', Bool.not_eq_false', Bool.and_eq_true, Bool.or_eq_true, Bool.and_eq_false_iff, Bool.or_eq_false_iff, beq_iff_eq, bne_iff_ne, beq_eq_false_iff_ne, bne_eq_false_iff_eq, ne_eq, Decidable.not_not, Bool.decide_eq_true] at h2_
        obtain ⟨x, hx⟩ := get_lt (show i < l.length by omega)
        obtain ⟨y, hy⟩ := get_lt (show i < m.length by omega)
        refine aw_skipT ?_
        refine aw_seq ?_
        refine aw_block ?_
        refine aw_seq ?_
        refine aw_draw (m := 9) mo (by kernel_rfl) rfl ?_
        first | refine dw_opd rfl rfl rfl (ao_mv (v := .slice _ _ _) rfl) ?_ | refine dw_opd rfl rfl rfl (ao_mv (v := v) rfl) ?_ | refine dw_opd rfl rfl rfl (ao_mv (v := u) rfl) ?_
        refine dw_opd rfl rfl rfl (ao_mv (v := .int _ _) rfl) ?_
        first | refine dw_opd rfl rfl rfl (ao_indexAddrS Try.underlying32 Try.sizeOf31 rfl rfl (by first | omega | decide | (simp; omega)) (by first | omega | decide | (simp; omega))) ?_ | refine dw_opd rfl rfl rfl (ao_indexV Try.underlying32 Try.sizeOf31 rfl rfl ha (by first | omega | decide | (simp; omega)) (by first | omega | decide | (simp; omega))) ?_ | refine dw_opd rfl rfl rfl (ao_indexV Try.underlying32 Try.sizeOf31 rfl rfl hb (by first | omega | decide | (simp; omega)) (by first | omega | decide | (simp; omega))) ?_
        first | refine dw_opd rfl rfl rfl (ao_load (v := .int _ _) Try.isAgg31 (by rfl) (by ((repeat (first | exact blk_push_new _ _ | assumption | apply blk_push_old | apply blk_set_same | refine (blk_set_ne (by first | assumption | omega | (simp only [next_push, next_set, next_kill, ne_eq]; omega))).trans ?_ | refine (blk_kill_ne (by first | assumption | omega | (simp only [next_push, next_set, next_kill, ne_eq]; omega))).trans ?_)); (first | done | fail))) (by rfl) (by first | rfl | (simp; (first | done | fail)))) ?_ | refine dw_opd rfl rfl rfl (ao_loadV (j := 0) (u := .int _ _) Try.isAgg31 ha rfl rfl (by assumption) rfl) ?_ | refine dw_opd rfl rfl rfl (ao_loadV (j := 1) (u := .int _ _) Try.isAgg31 ha rfl rfl (by assumption) rfl) ?_ | refine dw_opd rfl rfl rfl (ao_loadV (j := 0) (u := .int _ _) Try.isAgg31 hb rfl rfl (by assumption) rfl) ?_ | refine dw_opd rfl rfl rfl (ao_loadV (j := 1) (u := .int _ _) Try.isAgg31 hb rfl rfl (by assumption) rfl) ?_ | refine dw_opd rfl rfl rfl (ao_loadV (i := 0) (j := 0) (u := .int _ _) Try.isAgg31 ha rfl rfl (by assumption) rfl) ?_ | refine dw_opd rfl rfl rfl (ao_loadV (i := 0) (j := 1) (u := .int _ _) Try.isAgg31 ha rfl rfl (by assumption) rfl) ?_ | refine dw_opd rfl rfl rfl (ao_loadV (i := 0) (j := 0) (u := .int _ _) Try.isAgg31 hb rfl rfl (by assumption) rfl) ?_ | refine dw_opd rfl rfl rfl (ao_loadV (i := 0) (j := 1) (u := .int _ _) Try.isAgg31 hb rfl rfl (by assumption) rfl) ?_
        first | refine dw_opd rfl rfl rfl (ao_mv (v := .slice _ _ _) rfl) ?_ | refine dw_opd rfl rfl rfl (ao_mv (v := v) rfl) ?_ | refine dw_opd rfl rfl rfl (ao_mv (v := u) rfl) ?_
        refine dw_opd rfl rfl rfl (ao_mv (v := .int _ _) rfl) ?_
        first | refine dw_opd rfl rfl rfl (ao_indexAddrS Try.underlying32 Try.sizeOf31 rfl rfl (by first | omega | decide | (simp; omega)) (by first | omega | decide | (simp; omega))) ?_ | refine dw_opd rfl rfl rfl (ao_indexV Try.underlying32 Try.sizeOf31 rfl rfl ha (by first | omega | decide | (simp; omega)) (by first | omega | decide | (simp; omega))) ?_ | refine dw_opd rfl rfl rfl (ao_indexV Try.underlying32 Try.sizeOf31 rfl rfl hb (by first | omega | decide | (simp; omega)) (by first | omega | decide | (simp; omega))) ?_
        first | refine dw_opd rfl rfl rfl (ao_load (v := .int _ _) Try.isAgg31 (by rfl) (by ((repeat (first | exact blk_push_new _ _ | assumption | apply blk_push_old | apply blk_set_same | refine (blk_set_ne (by first | assumption | omega | (simp only [next_push, next_set, next_kill, ne_eq]; omega))).trans ?_ | refine (blk_kill_ne (by first | assumption | omega | (simp only [next_push, next_set, next_kill, ne_eq]; omega))).trans ?_)); (first | done | fail))) (by rfl) (by first | rfl | (simp; (first | done | fail)))) ?_ | refine dw_opd rfl rfl rfl (ao_loadV (j := 0) (u := .int _ _) Try.isAgg31 ha rfl rfl (by assumption) rfl) ?_ | refine dw_opd rfl rfl rfl (ao_loadV (j := 1) (u := .int _ _) Try.isAgg31 ha rfl rfl (by assumption) rfl) ?_ | refine dw_opd rfl rfl rfl (ao_loadV (j := 0) (u := .int _ _) Try.isAgg31 hb rfl rfl (by assumption) rfl) ?_ | refine dw_opd rfl rfl rfl (ao_loadV (j := 1) (u := .int _ _) Try.isAgg31 hb rfl rfl (by assumption) rfl) ?_ | refine dw_opd rfl rfl rfl (ao_loadV (i := 0) (j := 0) (u := .int _ _) Try.isAgg31 ha rfl rfl (by assumption) rfl) ?_ | refine dw_opd rfl rfl rfl (ao_loadV (i := 0) (j := 1) (u := .int _ _) Try.isAgg31 ha rfl rfl (by assumption) rfl) ?_ | refine dw_opd rfl rfl rfl (ao_loadV (i := 0) (j := 0) (u := .int _ _) Try.isAgg31 hb rfl rfl (by assumption) rfl) ?_ | refine dw_opd rfl rfl rfl (ao_loadV (i := 0) (j := 1) (u := .int _ _) Try.isAgg31 hb rfl rfl (by assumption) rfl) ?_
        refine dw_opd rfl rfl rfl (ao_neq rfl rfl) ?_
        refine dw_end ?_
        refine al_nilT ?_
        refine aw_cond rfl (fun h3_ => ?_) (fun h3_ => ?_)
        · try simp only [decide_eq_true_eq, decide_eq_false_iff_not, Bool.not_eq_true', Bool.not_eq_false', Bool.and_eq_true, Bool.or_eq_true, Bool.and_eq_false_iff, Bool.or_eq_false_iff, beq_iff_eq, bne_iff_ne, beq_eq_false_iff_ne, bne_eq_false_iff_eq, ne_eq, Decidable.not_not, Bool.decide_eq_true] at h3_
          refine aw_seq ?_
          refine aw_region ?_
          refine al_opd rfl rfl rfl (ao_as (v := .bool _) rfl) ?_
          refine al_nilT ?_
          refine aw_ret ?_
          refine blockA_r ?_
          refine thenA_r ?_
          refine thenA_r ?_
          refine blockA_r ?_
          refine thenA_r ?_
          refine ends1 rfl (rv_tmp (v := .bool _) rfl) ?_
          exact ⟨by rw [decide_eq_false (ne_at hx hy h3_)], by (repeat (first | exact Same.refl _ _ | assumption | refine Same.push ?_ (by (first | exact Nat.le_refl _ | omega | (simp only [next_push, next_set, next_kill]; omega))) _ | refine Same.set ?_ (by (first | exact Nat.le_refl _ | omega | (simp only [next_push, next_set, next_kill]; omega))) _ | refine Same.kill ?_ (by (first | exact Nat.le_refl _ | omega | (simp only [next_push, next_set, next_kill]; omega)))))⟩
        · try simp only [decide_eq_true_eq, decide_eq_false_iff_not, Bool.not_eq_true', Bool.not_eq_false', Bool.and_eq_true, Bool.or_eq_true, Bool.and_eq_false_iff, Bool.or_eq_false_iff, beq_iff_eq, bne_iff_ne, beq_eq_false_iff_ne, bne_eq_false_iff_eq, ne_eq, Decidable.not_not, Bool.decide_eq_true] at h3_
          refine aw_skipB ?_
          refine thenA_n ?_
          refine aw_region ?_
          refine al_opd rfl rfl rfl (ao_mv (v := .int _ _) rfl) ?_
          first | refine al_opd rfl rfl rfl ((ao_add rfl rfl).val (nw_i64 (by first | omega | decide) (by first | omega | decide))) ?_ | refine al_opd rfl rfl rfl (ao_add rfl rfl) ?_
          refine al_opd rfl rfl rfl (ao_as (v := .int _ _) rfl) ?_
          refine al_nilT ?_
          exact ⟨_, by omega, _, rfl, i + 1, by omega, rfl, rfl, rfl, rfl, by rfl, take_step hq hx (by rw [hy]; exact congrArg some h3_.symm)⟩
      · try simp only [decide_eq_true_eq, decide_eq_false_iff_not, Bool.not_eq_true', Bool.not_eq_false', Bool.and_eq_true, Bool.or_eq_true, Bool.and_eq_false_iff, Bool.or_eq_false_iff, beq_iff_eq, bne_iff_ne, beq_eq_false_iff_ne, bne_eq_false_iff_eq, ne_eq, Decidable.not_not, Bool.decide_eq_true] at h2_
        refine aw_exit ?_
        refine thenA_x ?_
        refine thenA_x ?_
        refine blockA_hit ?_
        refine thenA_n ?_
        refine aw_seq ?_
        refine aw_region ?_
        refine al_opd rfl rfl rfl (ao_as (v := .bool _) rfl) ?_
        refine al_nilT ?_
        refine aw_ret ?_
        refine ends1 rfl (rv_tmp (v := .bool _) rfl) ?_
        exact ⟨by rw [decide_eq_true (take_all hq (by omega) hlen)], by (repeat (first | exact Same.refl _ _ | assumption | refine Same.push ?_ (by (first | exact Nat.le_refl _ | omega | (simp only [next_push, next_set, next_kill]; omega))) _ | refine Same.set ?_ (by (first | exact Nat.le_refl _ | omega | (simp only [next_push, next_set, next_kill]; omega))) _ | refine Same.kill ?_ (by (first | exact Nat.le_refl _ | omega | (simp only [next_push, next_set, next_kill]; omega)))))⟩

-- slices.Equal[[]int16,int16]
theorem equalI16_c {v u : Value} {l m : List Int} {H : AHeap} (ha : Sl H i16 1 v l) (hb : Sl H i16 1 u m) (hl : l.length ≤ 4194304) : ACd Try.prog 75 [v, u] H (.bool (decide (l = m))) (H) := by
  refine ac_gc0 (fun β => VR.plainT β (by first | rfl | simp [plainT, plainV, plain1])) (ac_body Try.func75 rfl Try.ntmps75 rfl ?_)
  refine aw_seq ?_
  refine aw_region ?_
  refine al_opd rfl rfl rfl (ao_as (v := .bool _) rfl) ?_
  refine al_nilT ?_
  refine aw_seq ?_
  refine aw_seq ?_
  refine aw_region ?_
  first | refine al_opd rfl rfl rfl (ao_mv (v := .slice _ _ _) rfl) ?_ | refine al_opd rfl rfl rfl (ao_mv (v := v) rfl) ?_ | refine al_opd rfl rfl rfl (ao_mv (v := u) rfl) ?_
  first | refine al_opd rfl rfl rfl (ao_lenS Try.underlying32 (by rfl)) ?_ | refine al_opd rfl rfl rfl (ao_lenN Try.underlying32 (by rfl)) ?_ | refine al_opd rfl rfl rfl (ao_lenV Try.underlying32 rfl ha) ?_ | refine al_opd rfl rfl rfl (ao_lenV Try.underlying32 rfl hb) ?_
  first | refine al_opd rfl rfl rfl (ao_mv (v := .slice _ _ _) rfl) ?_ | refine al_opd rfl rfl rfl (ao_mv (v := v) rfl) ?_ | refine al_opd rfl rfl rfl (ao_mv (v := u) rfl) ?_
  first | refine al_opd rfl rfl rfl (ao_lenS Try.underlying32 (by rfl)) ?_ | refine al_opd rfl rfl rfl (ao_lenN Try.underlying32 (by rfl)) ?_ | refine al_opd rfl rfl rfl (ao_lenV Try.underlying32 rfl ha) ?_ | refine al_opd rfl rfl rfl (ao_lenV Try.underlying32 rfl hb) ?_
  refine al_opd rfl rfl rfl (ao_neq rfl rfl) ?_
  refine al_nilT ?_
  refine aw_cond rfl (fun h1_ => ?_) (fun h1_ => ?_)
  · try simp only [decide_eq_true_eq, decide_eq_false_iff_not, Bool.not_eq_true', Bool.not_eq_false', Bool.and_eq_true, Bool.or_eq_true, Bool.and_eq_false_iff, Bool.or_eq_false_iff, beq_iff_eq, bne_iff_ne, beq_eq_false_iff_ne, bne_eq_false_iff_eq, ne_eq, Decidable.not_not, Bool.decide_eq_true] at h1_
    refine aw_seq ?_
    refine aw_region ?_
    refine al_opd rfl rfl rfl (ao_as (v := .bool _) rfl) ?_
    refine al_nilT ?_
    refine aw_ret ?_
    refine thenA_r ?_
    refine ends1 rfl (rv_tmp (v := .bool _) rfl) ?_
    exact ⟨by rw [decide_eq_false (fun e => h1_ (by rw [e]))], by (repeat (first | exact Same.refl _ _ | assumption | refine Same.push ?_ (by (first | exact Nat.le_refl _ | omega | (simp only [next_push, next_set, next_kill]; omega))) _ | refine Same.set ?_ (by (first | exact Nat.le_refl _ | omega | (simp only [next_push, next_set, next_kill]; omega))) _ | refine Same.kill ?_ (by (first | exact Nat.le_refl _ | omega | (simp only [next_push, next_set, next_kill]; omega)))))⟩
  · try simp only [decide_eq_true_eq, decide_eq_false_iff_not, Bool.not_eq_true', Bool.not_eq_false', Bool.and_eq_true, Bool.or_eq_true, Bool.and_eq_false_iff, Bool.or_eq_false_iff, beq_iff_eq, bne_iff_ne, beq_eq_false_iff_ne, bne_eq_false_iff_eq, ne_eq, Decidable.not_not, Bool.decide_eq_true] at h1_
    refine aw_skipT ?_
    refine aw_seq ?_
    refine aw_seq ?_
    refine aw_region ?_
    first | refine al_opd rfl rfl rfl (ao_mv (v := .slice _ _ _) rfl) ?_ | refine al_opd rfl rfl rfl (ao_mv (v := v) rfl) ?_ | refine al_opd rfl rfl rfl (ao_mv (v := u) rfl) ?_
    first | refine al_opd rfl rfl rfl (ao_lenS Try.underlying32 (by rfl)) ?_ | refine al_opd rfl rfl rfl (ao_lenN Try.underlying32 (by rfl)) ?_ | refine al_opd rfl rfl rfl (ao_lenV Try.underlying32 rfl ha) ?_ | refine al_opd rfl rfl rfl (ao_lenV Try.underlying32 rfl hb) ?_
    refine al_opd rfl rfl rfl (ao_mv (v := .int _ _) rfl) ?_
    refine al_nilT ?_
    refine aw_block ?_
    refine aw_loop (fun (gk : Nat) (fr : AFr) (G : AHeap) => ∃ get : Nat → Value, fr = ⟨26, get⟩ ∧ (∃ i : Nat, i ≤ l.length ∧ gk = l.length - i ∧ G = H ∧ get 0 = v ∧ get 1 = u ∧ get 12 = .int .i64 l.length ∧ get 13 = .int .i64 i ∧ l.take i = m.take i)) (l.length) ⟨_, rfl, ?_⟩ ?_
    · exact ⟨0, Nat.zero_le _, rfl, rfl, rfl, rfl, rfl, rfl, by simp⟩
    · rintro gk fr G ⟨get, rfl, i, hi, rfl, rfl, g0, g1, g12, g13, hq⟩
      have hlen : l.length = m.length := by omega
      refine aw_slot (d := 0) (v := v) (by first | assumption | rfl) ?_
      refine aw_slot (d := 1) (v := u) (by first | assumption | rfl) ?_
      refine aw_slot (d := 12) (v := .int .i64 l.length) (by first | assumption | rfl) ?_
      refine aw_slot (d := 13) (v := .int .i64 i) (by first | assumption | rfl) ?_
      refine aw_seq ?_
      refine aw_region ?_
      refine al_opd rfl rfl rfl (ao_lss rfl rfl) ?_
      refine al_nilT ?_
      refine aw_seq ?_
      refine aw_cond rfl (fun h2_ => ?_) (fun h2_ => ?_)
      · try simp only [decide_eq_true_eq, decide_eq_false_iff_not, Bool.not_eq_true', Bool.not_eq_false', Bool.and_eq_true, Bool.or_eq_true, Bool.and_eq_false_iff, Bool.or_eq_false_iff, beq_iff_eq, bne_iff_ne, beq_eq_false_iff_ne, bne_eq_false_iff_eq, ne_eq, Decidable.not_not, Bool.decide_eq_true] at h2_
        obtain ⟨x, hx⟩ := get_lt (show i < l.length by omega)
        obtain ⟨y, hy⟩ := get_lt (show i < m.length by omega)
        refine aw_skipT ?_
        refine aw_seq ?_
        refine aw_block ?_
        refine aw_seq ?_
        refine aw_region ?_
        refine al_opd rfl rfl rfl (ao_mv (v := .int _ _) rfl) ?_
        refine al_opd rfl rfl rfl (ao_as (v := .int _ _) rfl) ?_
        refine al_nilT ?_
        refine aw_seq ?_
        refine aw_draw (m := 9) mo (by kernel_rfl) rfl ?_
        first | refine dw_opd rfl rfl rfl (ao_mv (v := .slice _ _ _) rfl) ?_ | refine dw_opd rfl rfl rfl (ao_mv (v := v) rfl) ?_ | refine dw_opd rfl rfl rfl (ao_mv (v := u) rfl) ?_
        refine dw_opd rfl rfl rfl (ao_mv (v := .int _ _) rfl) ?_
        first | refine dw_opd rfl rfl rfl (ao_indexAddrS Try.underlying32 Try.sizeOf31 rfl rfl (by first | omega | decide | (simp; omega)) (by first | omega | decide | (simp; omega))) ?_ | refine dw_opd rfl rfl rfl (ao_indexV Try.underlying32 Try.sizeOf31 rfl rfl ha (by first | omega | decide | (simp; omega)) (by first | omega | decide | (simp; omega))) ?_ | refine dw_opd rfl rfl rfl (ao_indexV Try.underlying32 Try.sizeOf31 rfl rfl hb (by first | omega | decide | (simp; omega)) (by first | omega | decide | (simp; omega))) ?_
        first | refine dw_opd rfl rfl rfl (ao_load (v := .int _ _) Try.isAgg31 (by rfl) (by ((repeat (first | exact blk_push_new _ _ | assumption | apply blk_push_old | apply blk_set_same | refine (blk_set_ne (by first | assumption | omega | (simp only [next_push, next_set, next_kill, ne_eq]; omega))).trans ?_ | refine (blk_kill_ne (by first | assumption | omega | (simp only [next_push, next_set, next_kill, ne_eq]; omega))).trans ?_)); (first | done | fail))) (by rfl) (by first | rfl | (simp; (first | done | fail)))) ?_ | refine dw_opd rfl rfl rfl (ao_loadV (j := 0) (u := .int _ _) Try.isAgg31 ha rfl rfl (by assumption) rfl) ?_ | refine dw_opd rfl rfl rfl (ao_loadV (j := 1) (u := .int _ _) Try.isAgg31 ha rfl rfl (by assumption) rfl) ?_ | refine dw_opd rfl rfl rfl (ao_loadV (j := 0) (u := .int _ _) Try.isAgg31 hb rfl rfl (by assumption) rfl) ?_ | refine dw_opd rfl rfl rfl (ao_loadV (j := 1) (u := .int _ _) Try.isAgg31 hb rfl rfl (by assumption) rfl) ?_ | refine dw_opd rfl rfl rfl (ao_loadV (i := 0) (j := 0) (u := .int _ _) Try.isAgg31 ha rfl rfl (by assumption) rfl) ?_ | refine dw_opd rfl rfl rfl (ao_loadV (i := 0) (j := 1) (u := .int _ _) Try.isAgg31 ha rfl rfl (by assumption) rfl) ?_ | refine dw_opd rfl rfl rfl (ao_loadV (i := 0) (j := 0) (u := .int _ _) Try.isAgg31 hb rfl rfl (by assumption) rfl) ?_ | refine dw_opd rfl rfl rfl (ao_loadV (i := 0) (j := 1) (u := .int _ _) Try.isAgg31 hb rfl rfl (by assumption) rfl) ?_
        first | refine dw_opd rfl rfl rfl (ao_mv (v := .slice _ _ _) rfl) ?_ | refine dw_opd rfl rfl rfl (ao_mv (v := v) rfl) ?_ | refine dw_opd rfl rfl rfl (ao_mv (v := u) rfl) ?_
        refine dw_opd rfl rfl rfl (ao_mv (v := .int _ _) rfl) ?_
        first | refine dw_opd rfl rfl rfl (ao_indexAddrS Try.underlying32 Try.sizeOf31 rfl rfl (by first | omega | decide | (simp; omega)) (by first | omega | decide | (simp; omega))) ?_ | refine dw_opd rfl rfl rfl (ao_indexV Try.underlying32 Try.sizeOf31 rfl rfl ha (by first | omega | decide | (simp; omega)) (by first | omega | decide | (simp; omega))) ?_ | refine dw_opd rfl rfl rfl (ao_indexV Try.underlying32 Try.sizeOf31 rfl rfl hb (by first | omega | decide | (simp; omega)) (by first | omega | decide | (simp; omega))) ?_
        first | refine dw_opd rfl rfl rfl (ao_load (v := .int _ _) Try.isAgg31 (by rfl) (by ((repeat (first | exact blk_push_new _ _ | assumption | apply blk_push_old | apply blk_set_same | refine (blk_set_ne (by first | assumption | omega | (simp only [next_push, next_set, next_kill, ne_eq]; omega))).trans ?_ | refine (blk_kill_ne (by first | assumption | omega | (simp only [next_push, next_set, next_kill, ne_eq]; omega))).trans ?_)); (first | done | fail))) (by rfl) (by first | rfl | (simp; (first | done | fail)))) ?_ | refine dw_opd rfl rfl rfl (ao_loadV (j := 0) (u := .int _ _) Try.isAgg31 ha rfl rfl (by assumption) rfl) ?_ | refine dw_opd rfl rfl rfl (ao_loadV (j := 1) (u := .int _ _) Try.isAgg31 ha rfl rfl (by assumption) rfl) ?_ | refine dw_opd rfl rfl rfl (ao_loadV (j := 0) (u := .int _ _) Try.isAgg31 hb rfl rfl (by assumption) rfl) ?_ | refine dw_opd rfl rfl rfl (ao_loadV (j := 1) (u := .int _ _) Try.isAgg31 hb rfl rfl (by assumption) rfl) ?_ | refine dw_opd rfl rfl rfl (ao_loadV (i := 0) (j := 0) (u := .int _ _) Try.isAgg31 ha rfl rfl (by assumption) rfl) ?_ | refine dw_opd rfl rfl rfl (ao_loadV (i := 0) (j := 1) (u := .int _ _) Try.isAgg31 ha rfl rfl (by assumption) rfl) ?_ | refine dw_opd rfl rfl rfl (ao_loadV (i := 0) (j := 0) (u := .int _ _) Try.isAgg31 hb rfl rfl (by assumption) rfl) ?_ | refine dw_opd rfl rfl rfl (ao_loadV (i := 0) (j := 1) (u := .int _ _) Try.isAgg31 hb rfl rfl (by assumption) rfl) ?_
        refine dw_opd rfl rfl rfl (ao_neq rfl rfl) ?_
        refine dw_end ?_
        refine al_nilT ?_
        refine aw_cond rfl (fun h3_ => ?_) (fun h3_ => ?_)
        · try simp only [decide_eq_true_eq, decide_eq_false_iff_not, Bool.not_eq_true', Bool.not_eq_false', Bool.and_eq_true, Bool.or_eq_true, Bool.and_eq_false_iff, Bool.or_eq_false_iff, beq_iff_eq, bne_iff_ne, beq_eq_false_iff_ne, bne_eq_false_iff_eq, ne_eq, Decidable.not_not, Bool.decide_eq_true] at h3_
          refine aw_seq ?_
          refine aw_region ?_
          refine al_opd rfl rfl rfl (ao_as (v := .bool _) rfl) ?_
          refine al_nilT ?_
          refine aw_ret ?_
          refine blockA_r ?_
          refine thenA_r ?_
          refine thenA_r ?_
          refine blockA_r ?_
          refine thenA_r ?_
          refine ends1 rfl (rv_tmp (v := .bool _) rfl) ?_
          exact ⟨by rw [decide_eq_false (ne_at hx hy h3_)], by (repeat (first | exact Same.refl _ _ | assumption | refine Same.push ?_ (by (first | exact Nat.le_refl _ | omega | (simp only [next_push, next_set, next_kill]; omega))) _ | refine Same.set ?_ (by (first | exact Nat.le_refl _ | omega | (simp only [next_push, next_set, next_kill]; omega))) _ | refine Same.kill ?_ (by (first | exact Nat.le_refl _ | omega | (simp only [next_push, next_set, next_kill]; omega)))))⟩
        · try simp only [decide_eq_true_eq, decide_eq_false_iff_not, Bool.not_eq_true', Bool.not_eq_false', Bool.and_eq_true, Bool.or_eq_true, Bool.and_eq_false_iff, Bool.or_eq_false_iff, beq_iff_eq, bne_iff_ne, beq_eq_false_iff_ne, bne_eq_false_iff_eq, ne_eq, Decidable.not_not, Bool.decide_eq_true] at h3_
          refine aw_skipB ?_
          refine thenA_n ?_
          refine aw_region ?_
          first | refine al_opd rfl rfl rfl ((ao_add rfl rfl).val (nw_i64 (by first | omega | decide) (by first | omega | decide))) ?_ | refine al_opd rfl rfl rfl (ao_add rfl rfl) ?_
          refine al_opd rfl rfl rfl (ao_mv (v := .int _ _) rfl) ?_
          refine al_nilT ?_
          exact ⟨_, by omega, _, rfl, i + 1, by omega, rfl, rfl, rfl, rfl, rfl, by rfl, take_step hq hx (by rw [hy]; exact congrArg some h3_.symm)⟩
      · try simp only [decide_eq_true_eq, decide_eq_false_iff_not, Bool.not_eq_true', Bool.not_eq_false', Bool.and_eq_true, Bool.or_eq_true, Bool.and_eq_false_iff, Bool.or_eq_false_iff, beq_iff_eq, bne_iff_ne, beq_eq_false_iff_ne, bne_eq_false_iff_eq, ne_eq, Decidable.not_not, Bool.decide_eq_true] at h2_
        refine aw_exit ?_
        refine thenA_x ?_
        refine thenA_x ?_
        refine blockA_hit ?_
        refine thenA_n ?_
        refine aw_seq ?_
        refine aw_region ?_
        refine al_opd rfl rfl rfl (ao_as (v := .bool _) rfl) ?_
        refine al_nilT ?_
        refine aw_ret ?_
        refine ends1 rfl (rv_tmp (v := .bool _) rfl) ?_
        exact ⟨by rw [decide_eq_true (take_all hq (by omega) hlen)], by (repeat (first | exact Same.refl _ _ | assumption | refine Same.push ?_ (by (first | exact Nat.le_refl _ | omega | (simp only [next_push, next_set, next_kill]; omega))) _ | refine Same.set ?_ (by (first | exact Nat.le_refl _ | omega | (simp only [next_push, next_set, next_kill]; omega))) _ | refine Same.kill ?_ (by (first | exact Nat.le_refl _ | omega | (simp only [next_push, next_set, next_kill]; omega)))))⟩

-- laws.toInt16S
theorem toI16_c {v : Value} {l : List Int} {H : AHeap} (ha : Sl H i16 1 v l) (hl : l.length ≤ 4194304) : ACd Try.prog 74 [v] H ((.slice (some ⟨H.next, 0, none⟩) l.length l.length)) (H.push (.cells (fl i16 l) 1)) := by
  refine ac_gcs (vrl_fl i16_plain l) (ac_body Try.func74 rfl Try.ntmps74 rfl ?_)
  refine aw_seq ?_
  refine aw_region ?_
  first | refine al_opd rfl rfl rfl (ao_as (v := .slice _ _ _) rfl) ?_ | refine al_opd rfl rfl rfl (ao_as (v := v) rfl) ?_
  refine al_nilT ?_
  refine aw_seq ?_
  refine aw_region ?_
  first | refine al_opd rfl rfl rfl (ao_mv (v := .slice _ _ _) rfl) ?_ | refine al_opd rfl rfl rfl (ao_mv (v := v) rfl) ?_
  first | refine al_opd rfl rfl rfl (ao_lenS Try.underlying32 (by rfl)) ?_ | refine al_opd rfl rfl rfl (ao_lenN Try.underlying32 (by rfl)) ?_ | refine al_opd rfl rfl rfl (ao_lenV Try.underlying32 rfl ha) ?_ | refine al_opd rfl rfl rfl (ao_lenV Try.underlying32 rfl hb) ?_
  refine al_opd rfl rfl rfl (ao_makeF (i16) (0) Try.underlying32 elz31 (by rfl) (by decide) rfl rfl (by first | rfl | omega) (by first | omega | decide | (simp; omega)) (by first | omega | decide | (simp; omega))) ?_
  first | refine al_opd rfl rfl rfl (ao_as (v := .slice _ _ _) rfl) ?_ | refine al_opd rfl rfl rfl (ao_as (v := v) rfl) ?_
  refine al_nilT ?_
  refine aw_seq ?_
  refine aw_seq ?_
  refine aw_region ?_
  refine al_opd rfl rfl rfl (ao_as (v := .int _ _) rfl) ?_
  refine al_nilT ?_
  refine aw_block ?_
  have hb : Sl (H.push (.cells (fl i16 (List.replicate l.length 0)) 1)) i16 1 v l := ha.mono (by (repeat (first | exact Same.refl _ _ | assumption | refine Same.push ?_ (by (first | exact Nat.le_refl _ | omega | (simp only [next_push, next_set, next_kill]; omega))) _ | refine Same.set ?_ (by (first | exact Nat.le_refl _ | omega | (simp only [next_push, next_set, next_kill]; omega))) _ | refine Same.kill ?_ (by (first | exact Nat.le_refl _ | omega | (simp only [next_push, next_set, next_kill]; omega))))))
  refine aw_loop (fun (gk : Nat) (fr : AFr) (G : AHeap) => ∃ get : Nat → Value, fr = ⟨22, get⟩ ∧ (∃ (i : Nat) (z : List Int), i ≤ l.length ∧ gk = l.length - i ∧ z.length = l.length ∧ z.take i = l.take i ∧ G = H.push (.cells (fl i16 z) 1) ∧ get 0 = v ∧ get 3 = (.slice (some ⟨H.next, 0, none⟩) l.length l.length) ∧ get 4 = .int .i64 i)) (l.length) ⟨_, rfl, ?_⟩ ?_
  · exact ⟨0, _, Nat.zero_le _, rfl, by simp, by simp, rfl, rfl, rfl, rfl⟩
  · rintro gk fr G ⟨get, rfl, i, z, hi, rfl, hz, hq, rfl, g0, g3, g4⟩
    have hb : Sl (H.push (.cells (fl i16 z) 1)) i16 1 v l := ha.mono (by (repeat (first | exact Same.refl _ _ | assumption | refine Same.push ?_ (by (first | exact Nat.le_refl _ | omega | (simp only [next_push, next_set, next_kill]; omega))) _ | refine Same.set ?_ (by (first | exact Nat.le_refl _ | omega | (simp only [next_push, next_set, next_kill]; omega))) _ | refine Same.kill ?_ (by (first | exact Nat.le_refl _ | omega | (simp only [next_push, next_set, next_kill]; omega))))))
    refine aw_slot (d := 0) (v := v) (by first | assumption | rfl) ?_
    refine aw_slot (d := 3) (v := (.slice (some ⟨H.next, 0, none⟩) l.length l.length)) (by first | assumption | rfl) ?_
    refine aw_slot (d := 4) (v := .int .i64 i) (by first | assumption | rfl) ?_
    refine aw_seq ?_
    refine aw_seq ?_
    refine aw_region ?_
    refine al_opd rfl rfl rfl (ao_mv (v := .int _ _) rfl) ?_
    first | refine al_opd rfl rfl rfl (ao_mv (v := .slice _ _ _) rfl) ?_ | refine al_opd rfl rfl rfl (ao_mv (v := v) rfl) ?_
    first | refine al_opd rfl rfl rfl (ao_lenS Try.underlying32 (by rfl)) ?_ | refine al_opd rfl rfl rfl (ao_lenN Try.underlying32 (by rfl)) ?_ | refine al_opd rfl rfl rfl (ao_lenV Try.underlying32 rfl ha) ?_ | refine al_opd rfl rfl rfl (ao_lenV Try.underlying32 rfl hb) ?_
    refine al_opd rfl rfl rfl (ao_lss rfl rfl) ?_
    refine al_nilT ?_
    refine aw_cond rfl (fun h1_ => ?_) (fun h1_ => ?_)
    · try simp only [decide_eq_true_eq, decide_eq_false_iff_not, Bool.not_eq_true', Bool.not_eq_false', Bool.and_eq_true, Bool.or_eq_true, Bool.and_eq_false_iff, Bool.or_eq_false_iff, beq_iff_eq, bne_iff_ne, beq_eq_false_iff_ne, bne_eq_false_iff_eq, ne_eq, Decidable.not_not, Bool.decide_eq_true] at h1_
      obtain ⟨x, hx⟩ := get_lt (show i < l.length by omega)
      refine aw_skipT ?_
      refine aw_seq ?_
      refine aw_block ?_
      refine aw_region ?_
      first | refine al_opd rfl rfl rfl (ao_mv (v := .slice _ _ _) rfl) ?_ | refine al_opd rfl rfl rfl (ao_mv (v := v) rfl) ?_
      refine al_opd rfl rfl rfl (ao_mv (v := .int _ _) rfl) ?_
      first | refine al_opd rfl rfl rfl (ao_mv (v := .slice _ _ _) rfl) ?_ | refine al_opd rfl rfl rfl (ao_mv (v := v) rfl) ?_
      refine al_opd rfl rfl rfl (ao_mv (v := .int _ _) rfl) ?_
      first | refine al_opd rfl rfl rfl (ao_indexAddrS Try.underlying32 Try.sizeOf31 rfl rfl (by first | omega | decide | (simp; omega)) (by first | omega | decide | (simp; omega))) ?_ | refine al_opd rfl rfl rfl (ao_indexV Try.underlying32 Try.sizeOf31 rfl rfl ha (by first | omega | decide | (simp; omega)) (by first | omega | decide | (simp; omega))) ?_ | refine al_opd rfl rfl rfl (ao_indexV Try.underlying32 Try.sizeOf31 rfl rfl hb (by first | omega | decide | (simp; omega)) (by first | omega | decide | (simp; omega))) ?_
      first | refine al_opd rfl rfl rfl (ao_load (v := .int _ _) Try.isAgg31 (by rfl) (by ((repeat (first | exact blk_push_new _ _ | assumption | apply blk_push_old | apply blk_set_same | refine (blk_set_ne (by first | assumption | omega | (simp only [next_push, next_set, next_kill, ne_eq]; omega))).trans ?_ | refine (blk_kill_ne (by first | assumption | omega | (simp only [next_push, next_set, next_kill, ne_eq]; omega))).trans ?_)); (first | done | fail))) (by rfl) (by first | rfl | (simp; (first | done | fail)))) ?_ | refine al_opd rfl rfl rfl (ao_loadV (j := 0) (u := .int _ _) Try.isAgg31 ha rfl rfl (by assumption) rfl) ?_ | refine al_opd rfl rfl rfl (ao_loadV (j := 1) (u := .int _ _) Try.isAgg31 ha rfl rfl (by assumption) rfl) ?_ | refine al_opd rfl rfl rfl (ao_loadV (j := 0) (u := .int _ _) Try.isAgg31 hb rfl rfl (by assumption) rfl) ?_ | refine al_opd rfl rfl rfl (ao_loadV (j := 1) (u := .int _ _) Try.isAgg31 hb rfl rfl (by assumption) rfl) ?_ | refine al_opd rfl rfl rfl (ao_loadV (i := 0) (j := 0) (u := .int _ _) Try.isAgg31 ha rfl rfl (by assumption) rfl) ?_ | refine al_opd rfl rfl rfl (ao_loadV (i := 0) (j := 1) (u := .int _ _) Try.isAgg31 ha rfl rfl (by assumption) rfl) ?_ | refine al_opd rfl rfl rfl (ao_loadV (i := 0) (j := 0) (u := .int _ _) Try.isAgg31 hb rfl rfl (by assumption) rfl) ?_ | refine al_opd rfl rfl rfl (ao_loadV (i := 0) (j := 1) (u := .int _ _) Try.isAgg31 hb rfl rfl (by assumption) rfl) ?_
      first | refine al_opd rfl rfl rfl (ao_indexAddrS Try.underlying32 Try.sizeOf31 rfl rfl (by first | omega | decide | (simp; omega)) (by first | omega | decide | (simp; omega))) ?_ | refine al_opd rfl rfl rfl (ao_indexV Try.underlying32 Try.sizeOf31 rfl rfl ha (by first | omega | decide | (simp; omega)) (by first | omega | decide | (simp; omega))) ?_ | refine al_opd rfl rfl rfl (ao_indexV Try.underlying32 Try.sizeOf31 rfl rfl hb (by first | omega | decide | (simp; omega)) (by first | omega | decide | (simp; omega))) ?_
      refine al_opd rfl rfl rfl ((ao_store1 (v := .int _ _) Try.sizeOf31 (by rfl) (by rfl) (by ((repeat (first | exact blk_push_new _ _ | assumption | apply blk_push_old | apply blk_set_same | refine (blk_set_ne (by first | assumption | omega | (simp only [next_push, next_set, next_kill, ne_eq]; omega))).trans ?_ | refine (blk_kill_ne (by first | assumption | omega | (simp only [next_push, next_set, next_kill, ne_eq]; omega))).trans ?_)); (first | done | fail))) (by rfl) (by (rw [fl_len i16_len, hz]; simp; omega))).to (SetR.eq (by (repeat (first | exact SetR.new | exact SetR.same | (apply SetR.old; · exact ⟨_, by ((repeat (first | exact blk_push_new _ _ | assumption | apply blk_push_old | apply blk_set_same | refine (blk_set_ne (by first | assumption | omega | (simp only [next_push, next_set, next_kill, ne_eq]; omega))).trans ?_ | refine (blk_kill_ne (by first | assumption | omega | (simp only [next_push, next_set, next_kill, ne_eq]; omega))).trans ?_)); (first | done | fail))⟩) | exact SetR.base))))) ?_
      refine al_nilB ?_
      refine thenA_n ?_
      refine aw_region ?_
      refine al_opd rfl rfl rfl (ao_mv (v := .int _ _) rfl) ?_
      first | refine al_opd rfl rfl rfl ((ao_add rfl rfl).val (nw_i64 (by first | omega | decide) (by first | omega | decide))) ?_ | refine al_opd rfl rfl rfl (ao_add rfl rfl) ?_
      refine al_opd rfl rfl rfl (ao_as (v := .int _ _) rfl) ?_
      refine al_nilT ?_
      exact ⟨_, by omega, _, rfl, i + 1, z.set i x, by omega, rfl, by simp [hz], take_setz hq hx (by omega), congrArg (fun c => H.push (.cells c 1)) (fl_setz (j := 0) i16_len x (get_some (show i < z.length by omega)) (by decide) (by rfl)), rfl, rfl, by rfl⟩
    · try simp only [decide_eq_true_eq, decide_eq_false_iff_not, Bool.not_eq_true', Bool.not_eq_false', Bool.and_eq_true, Bool.or_eq_true, Bool.and_eq_false_iff, Bool.or_eq_false_iff, beq_iff_eq, bne_iff_ne, beq_eq_false_iff_ne, bne_eq_false_iff_eq, ne_eq, Decidable.not_not, Bool.decide_eq_true] at h1_
      refine aw_exit ?_
      refine thenA_x ?_
      refine thenA_x ?_
      refine blockA_hit ?_
      refine thenA_n ?_
      refine aw_seq ?_
      refine aw_region ?_
      first | refine al_opd rfl rfl rfl (ao_mv (v := .slice _ _ _) rfl) ?_ | refine al_opd rfl rfl rfl (ao_mv (v := v) rfl) ?_
      first | refine al_opd rfl rfl rfl (ao_as (v := .slice _ _ _) rfl) ?_ | refine al_opd rfl rfl rfl (ao_as (v := v) rfl) ?_
      refine al_nilT ?_
      refine aw_ret ?_
      refine ends1 rfl (rv_tmp (v := .slice _ _ _) rfl) ?_
      exact ⟨by (repeat (first | exact Same.refl _ _ | assumption | refine Same.push ?_ (by (first | exact Nat.le_refl _ | omega | (simp only [next_push, next_set, next_kill]; omega))) _ | refine Same.set ?_ (by (first | exact Nat.le_refl _ | omega | (simp only [next_push, next_set, next_kill]; omega))) _ | refine Same.kill ?_ (by (first | exact Nat.le_refl _ | omega | (simp only [next_push, next_set, next_kill]; omega))))), H.next, Nat.le_refl _, by rw [take_all hq (by omega) hz]; exact blk_push_new _ _, fun ρ h => vr_sl h (Nat.le_refl _) (fun _ => rfl)⟩

-- laws.szRope
theorem szRope_c {L : Int} {v : Value} {l : List Int} {k : Int} {H : AHeap} (ha : Sl H i16 1 v l) (hl : l.length ≤ 9223372036854775807) (hk : k = 0 ∨ 0 ≤ k ∧ k ≤ 1048576) : ACd Try.prog 26 [.agg #[.int .i16 L, v], .int .i64 k] H (.int .i64 (if k - l.length < 0 then -1 else k - l.length)) (H) := by
  refine ac_gc0 (fun β => VR.plainT β (by first | rfl | simp [plainT, plainV, plain1])) (ac_body Try.func26 rfl Try.ntmps26 rfl ?_)
  refine aw_seq ?_
  refine aw_region ?_
  refine al_opd rfl rfl rfl (ao_boxa (by rfl)) ?_
  refine al_opd rfl rfl rfl (ao_as (v := .int _ _) rfl) ?_
  refine al_nilT ?_
  refine aw_seq ?_
  refine aw_region ?_
  refine al_opd rfl rfl rfl (ao_fieldAddr fo_34_1 rfl) ?_
  first | refine al_opd rfl rfl rfl (ao_load (v := .slice _ _ _) Try.isAgg32 (by rfl) (by ((repeat (first | exact blk_push_new _ _ | assumption | apply blk_push_old | apply blk_set_same | refine (blk_set_ne (by first | assumption | omega | (simp only [next_push, next_set, next_kill, ne_eq]; omega))).trans ?_ | refine (blk_kill_ne (by first | assumption | omega | (simp only [next_push, next_set, next_kill, ne_eq]; omega))).trans ?_)); (first | done | fail))) (by rfl) (by first | rfl | (simp; (first | done | fail)))) ?_ | refine al_opd rfl rfl rfl (ao_load (v := v) Try.isAgg32 (by rfl) (by ((repeat (first | exact blk_push_new _ _ | assumption | apply blk_push_old | apply blk_set_same | refine (blk_set_ne (by first | assumption | omega | (simp only [next_push, next_set, next_kill, ne_eq]; omega))).trans ?_ | refine (blk_kill_ne (by first | assumption | omega | (simp only [next_push, next_set, next_kill, ne_eq]; omega))).trans ?_)); (first | done | fail))) (by rfl) (by first | rfl | (simp; (first | done | fail)))) ?_
  refine al_opd rfl rfl rfl (ao_mv (v := .int _ _) rfl) ?_
  refine al_opd rfl rfl rfl (ao_calld (szI16_c (l := l) (v := v) (ha.mono (by (repeat (first | exact Same.refl _ _ | assumption | refine Same.push ?_ (by (first | exact Nat.le_refl _ | omega | (simp only [next_push, next_set, next_kill]; omega))) _ | refine Same.set ?_ (by (first | exact Nat.le_refl _ | omega | (simp only [next_push, next_set, next_kill]; omega))) _ | refine Same.kill ?_ (by (first | exact Nat.le_refl _ | omega | (simp only [next_push, next_set, next_kill]; omega))))))) hl hk) Try.call73 rfl rfl) ?_
  refine al_opd rfl rfl rfl (ao_as (v := .int _ _) rfl) ?_
  refine al_nilT ?_
  refine aw_seq ?_
  refine aw_seq ?_
  refine aw_region ?_
  refine al_opd rfl rfl rfl (ao_mv (v := .int _ _) rfl) ?_
  refine al_opd rfl rfl rfl (ao_lss rfl rfl) ?_
  refine al_nilT ?_
  refine aw_cond rfl (fun h1_ => ?_) (fun h1_ => ?_)
  · try simp only [decide_eq_true_eq, decide_eq_false_iff_not, Bool.not_eq_true', Bool.not_eq_false', Bool.and_eq_true, Bool.or_eq_true, Bool.and_eq_false_iff, Bool.or_eq_false_iff, beq_iff_eq, bne_iff_ne, beq_eq_false_iff_ne, bne_eq_false_iff_eq, ne_eq, Decidable.not_not, Bool.decide_eq_true] at h1_
    refine aw_seq ?_
    refine aw_region ?_
    refine al_opd rfl rfl rfl (ao_as (v := .int _ _) rfl) ?_
    refine al_nilT ?_
    refine aw_ret ?_
    refine thenA_r ?_
    refine ends1 rfl (rv_tmp (v := .int _ _) rfl) ?_
    exact ⟨by split at h1_ <;> simp_all, by (repeat (first | exact Same.refl _ _ | assumption | refine Same.push ?_ (by (first | exact Nat.le_refl _ | omega | (simp only [next_push, next_set, next_kill]; omega))) _ | refine Same.set ?_ (by (first | exact Nat.le_refl _ | omega | (simp only [next_push, next_set, next_kill]; omega))) _ | refine Same.kill ?_ (by (first | exact Nat.le_refl _ | omega | (simp only [next_push, next_set, next_kill]; omega)))))⟩
  · try simp only [decide_eq_true_eq, decide_eq_false_iff_not, Bool.not_eq_true', Bool.not_eq_false', Bool.and_eq_true, Bool.or_eq_true, Bool.and_eq_false_iff, Bool.or_eq_false_iff, beq_iff_eq, bne_iff_ne, beq_eq_false_iff_ne, bne_eq_false_iff_eq, ne_eq, Decidable.not_not, Bool.decide_eq_true] at h1_
    refine aw_skipT ?_
    refine aw_seq ?_
    refine aw_region ?_
    refine al_opd rfl rfl rfl (ao_mv (v := .int _ _) rfl) ?_
    refine al_opd rfl rfl rfl (ao_as (v := .int _ _) rfl) ?_
    refine al_nilT ?_
    refine aw_ret ?_
    refine ends1 rfl (rv_tmp (v := .int _ _) rfl) ?_
    exact ⟨rfl, by (repeat (first | exact Same.refl _ _ | assumption | refine Same.push ?_ (by (first | exact Nat.le_refl _ | omega | (simp only [next_push, next_set, next_kill]; omega))) _ | refine Same.set ?_ (by (first | exact Nat.le_refl _ | omega | (simp only [next_push, next_set, next_kill]; omega))) _ | refine Same.kill ?_ (by (first | exact Nat.le_refl _ | omega | (simp only [next_push, next_set, next_kill]; omega)))))⟩

-- laws.toRope
theorem toRope_c {L : Int} {v : Value} {l : List Int} {H : AHeap} (ha : Sl H i16 1 v l) (hl : l.length ≤ 4194304) : ACd Try.prog 28 [.agg #[.int .i16 L, v]] H (.agg #[.int .i16 L, (.slice (some ⟨H.next, 0, none⟩) l.length l.length)]) (H.push (.cells (fl i16 l) 1)) := by
  refine ac_gcs (vrl_fl i16_plain l) (ac_body Try.func28 rfl Try.ntmps28 rfl ?_)
  refine aw_seq ?_
  refine aw_region ?_
  refine al_opd rfl rfl rfl (ao_boxa (by rfl)) ?_
  refine al_opd rfl rfl rfl (ao_alloca (zv37) (by rfl)) ?_
  refine al_nilT ?_
  refine aw_seq ?_
  refine aw_region ?_
  refine al_opd rfl rfl rfl (ao_alloca (zv37) (by rfl)) ?_
  refine al_nilT ?_
  refine aw_seq ?_
  refine aw_region ?_
  refine al_opd rfl rfl rfl (ao_fieldAddr fo_34_0 rfl) ?_
  refine al_opd rfl rfl rfl (ao_load (v := .int _ _) Try.isAgg31 (by rfl) (by ((repeat (first | exact blk_push_new _ _ | assumption | apply blk_push_old | apply blk_set_same | refine (blk_set_ne (by first | assumption | omega | (simp only [next_push, next_set, next_kill, ne_eq]; omega))).trans ?_ | refine (blk_kill_ne (by first | assumption | omega | (simp only [next_push, next_set, next_kill, ne_eq]; omega))).trans ?_)); (first | done | fail))) (by rfl) (by first | rfl | (simp; (first | done | fail)))) ?_
  refine al_opd rfl rfl rfl (ao_fieldAddr fo_37_0 rfl) ?_
  refine al_opd rfl rfl rfl ((ao_store1 (v := .int _ _) Try.sizeOf31 (by rfl) (by rfl) (by ((repeat (first | exact blk_push_new _ _ | assumption | apply blk_push_old | apply blk_set_same | refine (blk_set_ne (by first | assumption | omega | (simp only [next_push, next_set, next_kill, ne_eq]; omega))).trans ?_ | refine (blk_kill_ne (by first | assumption | omega | (simp only [next_push, next_set, next_kill, ne_eq]; omega))).trans ?_)); (first | done | fail))) (by rfl) (by first | decide | (simp; (first | done | fail)) | (simp; omega))).to (SetR.eq (by (repeat (first | exact SetR.new | exact SetR.same | (apply SetR.old; · exact ⟨_, by ((repeat (first | exact blk_push_new _ _ | assumption | apply blk_push_old | apply blk_set_same | refine (blk_set_ne (by first | assumption | omega | (simp only [next_push, next_set, next_kill, ne_eq]; omega))).trans ?_ | refine (blk_kill_ne (by first | assumption | omega | (simp only [next_push, next_set, next_kill, ne_eq]; omega))).trans ?_)); (first | done | fail))⟩) | exact SetR.base))))) ?_
  refine al_nilT ?_
  refine aw_seq ?_
  refine aw_region ?_
  refine al_opd rfl rfl rfl (ao_fieldAddr fo_34_1 rfl) ?_
  first | refine al_opd rfl rfl rfl (ao_load (v := .slice _ _ _) Try.isAgg32 (by rfl) (by ((repeat (first | exact blk_push_new _ _ | assumption | apply blk_push_old | apply blk_set_same | refine (blk_set_ne (by first | assumption | omega | (simp only [next_push, next_set, next_kill, ne_eq]; omega))).trans ?_ | refine (blk_kill_ne (by first | assumption | omega | (simp only [next_push, next_set, next_kill, ne_eq]; omega))).trans ?_)); (first | done | fail))) (by rfl) (by first | rfl | (simp; (first | done | fail)))) ?_ | refine al_opd rfl rfl rfl (ao_load (v := v) Try.isAgg32 (by rfl) (by ((repeat (first | exact blk_push_new _ _ | assumption | apply blk_push_old | apply blk_set_same | refine (blk_set_ne (by first | assumption | omega | (simp only [next_push, next_set, next_kill, ne_eq]; omega))).trans ?_ | refine (blk_kill_ne (by first | assumption | omega | (simp only [next_push, next_set, next_kill, ne_eq]; omega))).trans ?_)); (first | done | fail))) (by rfl) (by first | rfl | (simp; (first | done | fail)))) ?_
  refine al_opd rfl rfl rfl (ao_calld (toI16_c (l := l) (v := v) (ha.mono (by (repeat (first | exact Same.refl _ _ | assumption | refine Same.push ?_ (by (first | exact Nat.le_refl _ | omega | (simp only [next_push, next_set, next_kill]; omega))) _ | refine Same.set ?_ (by (first | exact Nat.le_refl _ | omega | (simp only [next_push, next_set, next_kill]; omega))) _ | refine Same.kill ?_ (by (first | exact Nat.le_refl _ | omega | (simp only [next_push, next_set, next_kill]; omega))))))) hl) Try.call74 rfl rfl) ?_
  refine al_opd rfl rfl rfl (ao_fieldAddr fo_37_1 rfl) ?_
  refine al_opd rfl rfl rfl ((ao_store1 (v := .slice _ _ _) Try.sizeOf32 (by rfl) (by rfl) (by ((repeat (first | exact blk_push_new _ _ | assumption | apply blk_push_old | apply blk_set_same | refine (blk_set_ne (by first | assumption | omega | (simp only [next_push, next_set, next_kill, ne_eq]; omega))).trans ?_ | refine (blk_kill_ne (by first | assumption | omega | (simp only [next_push, next_set, next_kill, ne_eq]; omega))).trans ?_)); (first | done | fail))) (by rfl) (by first | decide | (simp; (first | done | fail)) | (simp; omega))).to (SetR.eq (by (repeat (first | exact SetR.new | exact SetR.same | (apply SetR.old; · exact ⟨_, by ((repeat (first | exact blk_push_new _ _ | assumption | apply blk_push_old | apply blk_set_same | refine (blk_set_ne (by first | assumption | omega | (simp only [next_push, next_set, next_kill, ne_eq]; omega))).trans ?_ | refine (blk_kill_ne (by first | assumption | omega | (simp only [next_push, next_set, next_kill, ne_eq]; omega))).trans ?_)); (first | done | fail))⟩) | exact SetR.base))))) ?_
  refine al_nilT ?_
  refine aw_seq ?_
  refine aw_region ?_
  refine al_opd rfl rfl rfl (ao_loada Try.isAgg37 Try.sizeOf37 rfl (by ((repeat (first | exact blk_push_new _ _ | assumption | apply blk_push_old | apply blk_set_same | refine (blk_set_ne (by first | assumption | omega | (simp only [next_push, next_set, next_kill, ne_eq]; omega))).trans ?_ | refine (blk_kill_ne (by first | assumption | omega | (simp only [next_push, next_set, next_kill, ne_eq]; omega))).trans ?_)); (first | done | fail))) (by rfl) (by first | rfl | (simp; (first | done | fail)))) ?_
  first | refine al_opd rfl rfl rfl ((ao_storeL Try.sizeOf37 (by rfl) (by rfl) (by ((repeat (first | exact blk_push_new _ _ | assumption | apply blk_push_old | apply blk_set_same | refine (blk_set_ne (by first | assumption | omega | (simp only [next_push, next_set, next_kill, ne_eq]; omega))).trans ?_ | refine (blk_kill_ne (by first | assumption | omega | (simp only [next_push, next_set, next_kill, ne_eq]; omega))).trans ?_)); (first | done | fail))) (by first | rfl | (simp; (first | done | fail))) (by first | rfl | (simp; (first | done | fail))) (by first | rfl | (simp; (first | done | fail)))).to (SetR.eq (by (repeat (first | exact SetR.new | exact SetR.same | (apply SetR.old; · exact ⟨_, by ((repeat (first | exact blk_push_new _ _ | assumption | apply blk_push_old | apply blk_set_same | refine (blk_set_ne (by first | assumption | omega | (simp only [next_push, next_set, next_kill, ne_eq]; omega))).trans ?_ | refine (blk_kill_ne (by first | assumption | omega | (simp only [next_push, next_set, next_kill, ne_eq]; omega))).trans ?_)); (first | done | fail))⟩) | exact SetR.base))))) ?_ | refine al_opd rfl rfl rfl ((ao_storeP (ds := [.int _ _, .slice _ _ _]) Try.sizeOf37 (by rfl) (by rfl) (by ((repeat (first | exact blk_push_new _ _ | assumption | apply blk_push_old | apply blk_set_same | refine (blk_set_ne (by first | assumption | omega | (simp only [next_push, next_set, next_kill, ne_eq]; omega))).trans ?_ | refine (blk_kill_ne (by first | assumption | omega | (simp only [next_push, next_set, next_kill, ne_eq]; omega))).trans ?_)); (first | done | fail))) (by first | rfl | (simp; (first | done | fail))) (by first | rfl | (simp; (first | done | fail))) (by first | decide | (simp; (first | done | fail)) | (simp; omega))).to (SetR.eq (by (repeat (first | exact SetR.new | exact SetR.same | (apply SetR.old; · exact ⟨_, by ((repeat (first | exact blk_push_new _ _ | assumption | apply blk_push_old | apply blk_set_same | refine (blk_set_ne (by first | assumption | omega | (simp only [next_push, next_set, next_kill, ne_eq]; omega))).trans ?_ | refine (blk_kill_ne (by first | assumption | omega | (simp only [next_push, next_set, next_kill, ne_eq]; omega))).trans ?_)); (first | done | fail))⟩) | exact SetR.base))))) ?_
  refine al_nilT ?_
  refine aw_ret ?_
  refine ends1 rfl (rv_cella Try.isAgg37 Try.sizeOf37 rfl (by ((repeat (first | exact blk_push_new _ _ | assumption | apply blk_push_old | apply blk_set_same | refine (blk_set_ne (by first | assumption | omega | (simp only [next_push, next_set, next_kill, ne_eq]; omega))).trans ?_ | refine (blk_kill_ne (by first | assumption | omega | (simp only [next_push, next_set, next_kill, ne_eq]; omega))).trans ?_)); (first | done | fail))) (by rfl) (by first | rfl | (simp; (first | done | fail)))) ?_
  exact ⟨by (repeat (first | exact Same.refl _ _ | assumption | refine Same.push ?_ (by (first | exact Nat.le_refl _ | omega | (simp only [next_push, next_set, next_kill]; omega))) _ | refine Same.set ?_ (by (first | exact Nat.le_refl _ | omega | (simp only [next_push, next_set, next_kill]; omega))) _ | refine Same.kill ?_ (by (first | exact Nat.le_refl _ | omega | (simp only [next_push, next_set, next_kill]; omega))))), _, by (first | exact Nat.le_refl _ | omega | (simp only [next_push, next_set, next_kill]; omega)), by ((repeat (first | exact blk_push_new _ _ | assumption | apply blk_push_old | apply blk_set_same | refine (blk_set_ne (by first | assumption | omega | (simp only [next_push, next_set, next_kill, ne_eq]; omega))).trans ?_ | refine (blk_kill_ne (by first | assumption | omega | (simp only [next_push, next_set, next_kill, ne_eq]; omega))).trans ?_)); (first | done | fail)), fun ρ h => vr_agg2 (.int _ _) (vr_sl h (Nat.le_refl _) (fun _ => rfl))⟩

-- laws.eqRope
theorem eqRope_c {L M : Int} {v u : Value} {l m : List Int} {H : AHeap} (ha : Sl H i16 1 v l) (hb : Sl H i16 1 u m) (hl : l.length ≤ 4194304) : ACd Try.prog 30 [.agg #[.int .i16 L, v], .agg #[.int .i16 M, u]] H (.bool (decide (L = M) && decide (l = m))) (H) := by
  refine ac_gc0 (fun β => VR.plainT β (by first | rfl | simp [plainT, plainV, plain1])) (ac_body Try.func30 rfl Try.ntmps30 rfl ?_)
  refine aw_seq ?_
  refine aw_region ?_
  refine al_opd rfl rfl rfl (ao_boxa (by rfl)) ?_
  refine al_opd rfl rfl rfl (ao_boxa (by rfl)) ?_
  refine al_opd rfl rfl rfl (ao_as (v := .bool _) rfl) ?_
  refine al_nilT ?_
  refine aw_seq ?_
  refine aw_seq ?_
  refine aw_region ?_
  refine al_opd rfl rfl rfl (ao_fieldAddr fo_37_0 rfl) ?_
  refine al_opd rfl rfl rfl (ao_load (v := .int _ _) Try.isAgg31 (by rfl) (by ((repeat (first | exact blk_push_new _ _ | assumption | apply blk_push_old | apply blk_set_same | refine (blk_set_ne (by first | assumption | omega | (simp only [next_push, next_set, next_kill, ne_eq]; omega))).trans ?_ | refine (blk_kill_ne (by first | assumption | omega | (simp only [next_push, next_set, next_kill, ne_eq]; omega))).trans ?_)); (first | done | fail))) (by rfl) (by first | rfl | (simp; (first | done | fail)))) ?_
  refine al_opd rfl rfl rfl (ao_fieldAddr fo_37_0 rfl) ?_
  refine al_opd rfl rfl rfl (ao_load (v := .int _ _) Try.isAgg31 (by rfl) (by ((repeat (first | exact blk_push_new _ _ | assumption | apply blk_push_old | apply blk_set_same | refine (blk_set_ne (by first | assumption | omega | (simp only [next_push, next_set, next_kill, ne_eq]; omega))).trans ?_ | refine (blk_kill_ne (by first | assumption | omega | (simp only [next_push, next_set, next_kill, ne_eq]; omega))).trans ?_)); (first | done | fail))) (by rfl) (by first | rfl | (simp; (first | done | fail)))) ?_
  refine al_opd rfl rfl rfl (ao_neq rfl rfl) ?_
  refine al_nilT ?_
  refine aw_cond rfl (fun h1_ => ?_) (fun h1_ => ?_)
  · try simp only [decide_eq_true_eq, decide_eq_false_iff_not, Bool.not_eq_true', Bool.not_eq_false', Bool.and_eq_true, Bool.or_eq_true, Bool.and_eq_false_iff, Bool.or_eq_false_iff, beq_iff_eq, bne_iff_ne, beq_eq_false_iff_ne, bne_eq_false_iff_eq, ne_eq, Decidable.not_not, Bool.decide_eq_true] at h1_
    refine aw_seq ?_
    refine aw_region ?_
    refine al_opd rfl rfl rfl (ao_as (v := .bool _) rfl) ?_
    refine al_nilT ?_
    refine aw_ret ?_
    refine thenA_r ?_
    refine ends1 rfl (rv_tmp (v := .bool _) rfl) ?_
    exact ⟨by first | rfl | (simp [*]; (first | done | fail)), by (repeat (first | exact Same.refl _ _ | assumption | refine Same.push ?_ (by (first | exact Nat.le_refl _ | omega | (simp only [next_push, next_set, next_kill]; omega))) _ | refine Same.set ?_ (by (first | exact Nat.le_refl _ | omega | (simp only [next_push, next_set, next_kill]; omega))) _ | refine Same.kill ?_ (by (first | exact Nat.le_refl _ | omega | (simp only [next_push, next_set, next_kill]; omega)))))⟩
  · try simp only [decide_eq_true_eq, decide_eq_false_iff_not, Bool.not_eq_true', Bool.not_eq_false', Bool.and_eq_true, Bool.or_eq_true, Bool.and_eq_false_iff, Bool.or_eq_false_iff, beq_iff_eq, bne_iff_ne, beq_eq_false_iff_ne, bne_eq_false_iff_eq, ne_eq, Decidable.not_not, Bool.decide_eq_true] at h1_
    refine aw_skipT ?_
    refine aw_seq ?_
    refine aw_seq ?_
    refine aw_region ?_
    refine al_opd rfl rfl rfl (ao_fieldAddr fo_37_1 rfl) ?_
    first | refine al_opd rfl rfl rfl (ao_load (v := .slice _ _ _) Try.isAgg32 (by rfl) (by ((repeat (first | exact blk_push_new _ _ | assumption | apply blk_push_old | apply blk_set_same | refine (blk_set_ne (by first | assumption | omega | (simp only [next_push, next_set, next_kill, ne_eq]; omega))).trans ?_ | refine (blk_kill_ne (by first | assumption | omega | (simp only [next_push, next_set, next_kill, ne_eq]; omega))).trans ?_)); (first | done | fail))) (by rfl) (by first | rfl | (simp; (first | done | fail)))) ?_ | refine al_opd rfl rfl rfl (ao_load (v := v) Try.isAgg32 (by rfl) (by ((repeat (first | exact blk_push_new _ _ | assumption | apply blk_push_old | apply blk_set_same | refine (blk_set_ne (by first | assumption | omega | (simp only [next_push, next_set, next_kill, ne_eq]; omega))).trans ?_ | refine (blk_kill_ne (by first | assumption | omega | (simp only [next_push, next_set, next_kill, ne_eq]; omega))).trans ?_)); (first | done | fail))) (by rfl) (by first | rfl | (simp; (first | done | fail)))) ?_ | refine al_opd rfl rfl rfl (ao_load (v := u) Try.isAgg32 (by rfl) (by ((repeat (first | exact blk_push_new _ _ | assumption | apply blk_push_old | apply blk_set_same | refine (blk_set_ne (by first | assumption | omega | (simp only [next_push, next_set, next_kill, ne_eq]; omega))).trans ?_ | refine (blk_kill_ne (by first | assumption | omega | (simp only [next_push, next_set, next_kill, ne_eq]; omega))).trans ?_)); (first | done | fail))) (by rfl) (by first | rfl | (simp; (first | done | fail)))) ?_
    refine al_opd rfl rfl rfl (ao_fieldAddr fo_37_1 rfl) ?_
    first | refine al_opd rfl rfl rfl (ao_load (v := .slice _ _ _) Try.isAgg32 (by rfl) (by ((repeat (first | exact blk_push_new _ _ | assumption | apply blk_push_old | apply blk_set_same | refine (blk_set_ne (by first | assumption | omega | (simp only [next_push, next_set, next_kill, ne_eq]; omega))).trans ?_ | refine (blk_kill_ne (by first | assumption | omega | (simp only [next_push, next_set, next_kill, ne_eq]; omega))).trans ?_)); (first | done | fail))) (by rfl) (by first | rfl | (simp; (first | done | fail)))) ?_ | refine al_opd rfl rfl rfl (ao_load (v := v) Try.isAgg32 (by rfl) (by ((repeat (first | exact blk_push_new _ _ | assumption | apply blk_push_old | apply blk_set_same | refine (blk_set_ne (by first | assumption | omega | (simp only [next_push, next_set, next_kill, ne_eq]; omega))).trans ?_ | refine (blk_kill_ne (by first | assumption | omega | (simp only [next_push, next_set, next_kill, ne_eq]; omega))).trans ?_)); (first | done | fail))) (by rfl) (by first | rfl | (simp; (first | done | fail)))) ?_ | refine al_opd rfl rfl rfl (ao_load (v := u) Try.isAgg32 (by rfl) (by ((repeat (first | exact blk_push_new _ _ | assumption | apply blk_push_old | apply blk_set_same | refine (blk_set_ne (by first | assumption | omega | (simp only [next_push, next_set, next_kill, ne_eq]; omega))).trans ?_ | refine (blk_kill_ne (by first | assumption | omega | (simp only [next_push, next_set, next_kill, ne_eq]; omega))).trans ?_)); (first | done | fail))) (by rfl) (by first | rfl | (simp; (first | done | fail)))) ?_
    refine al_opd rfl rfl rfl (ao_calld (eqI16_c (l := l) (m := m) (v := v) (u := u) (ha.mono (by (repeat (first | exact Same.refl _ _ | assumption | refine Same.push ?_ (by (first | exact Nat.le_refl _ | omega | (simp only [next_push, next_set, next_kill]; omega))) _ | refine Same.set ?_ (by (first | exact Nat.le_refl _ | omega | (simp only [next_push, next_set, next_kill]; omega))) _ | refine Same.kill ?_ (by (first | exact Nat.le_refl _ | omega | (simp only [next_push, next_set, next_kill]; omega))))))) (hb.mono (by (repeat (first | exact Same.refl _ _ | assumption | refine Same.push ?_ (by (first | exact Nat.le_refl _ | omega | (simp only [next_push, next_set, next_kill]; omega))) _ | refine Same.set ?_ (by (first | exact Nat.le_refl _ | omega | (simp only [next_push, next_set, next_kill]; omega))) _ | refine Same.kill ?_ (by (first | exact Nat.le_refl _ | omega | (simp only [next_push, next_set, next_kill]; omega))))))) hl) Try.call76 rfl rfl) ?_
    refine al_opd rfl rfl rfl (ao_not rfl) ?_
    refine al_nilT ?_
    refine aw_cond rfl (fun h2_ => ?_) (fun h2_ => ?_)
    · try simp only [decide_eq_true_eq, decide_eq_false_iff_not, Bool.not_eq_true', Bool.not_eq_false', Bool.and_eq_true, Bool.or_eq_true, Bool.and_eq_false_iff, Bool.or_eq_false_iff, beq_iff_eq, bne_iff_ne, beq_eq_false_iff_ne, bne_eq_false_iff_eq, ne_eq, Decidable.not_not, Bool.decide_eq_true] at h2_
      refine aw_seq ?_
      refine aw_region ?_
      refine al_opd rfl rfl rfl (ao_as (v := .bool _) rfl) ?_
      refine al_nilT ?_
      refine aw_ret ?_
      refine thenA_r ?_
      refine ends1 rfl (rv_tmp (v := .bool _) rfl) ?_
      exact ⟨by first | rfl | (simp [*]; (first | done | fail)), by (repeat (first | exact Same.refl _ _ | assumption | refine Same.push ?_ (by (first | exact Nat.le_refl _ | omega | (simp only [next_push, next_set, next_kill]; omega))) _ | refine Same.set ?_ (by (first | exact Nat.le_refl _ | omega | (simp only [next_push, next_set, next_kill]; omega))) _ | refine Same.kill ?_ (by (first | exact Nat.le_refl _ | omega | (simp only [next_push, next_set, next_kill]; omega)))))⟩
    · try simp only [decide_eq_true_eq, decide_eq_false_iff_not, Bool.not_eq_true', Bool.not_eq_false', Bool.and_eq_true, Bool.or_eq_true, Bool.and_eq_false_iff, Bool.or_eq_false_iff, beq_iff_eq, bne_iff_ne, beq_eq_false_iff_ne, bne_eq_false_iff_eq, ne_eq, Decidable.not_not, Bool.decide_eq_true] at h2_
      refine aw_skipT ?_
      refine aw_seq ?_
      refine aw_region ?_
      refine al_opd rfl rfl rfl (ao_as (v := .bool _) rfl) ?_
      refine al_nilT ?_
      refine aw_ret ?_
      refine ends1 rfl (rv_tmp (v := .bool _) rfl) ?_
      exact ⟨by first | rfl | (simp [*]; (first | done | fail)), by (repeat (first | exact Same.refl _ _ | assumption | refine Same.push ?_ (by (first | exact Nat.le_refl _ | omega | (simp only [next_push, next_set, next_kill]; omega))) _ | refine Same.set ?_ (by (first | exact Nat.le_refl _ | omega | (simp only [next_push, next_set, next_kill]; omega))) _ | refine Same.kill ?_ (by (first | exact Nat.le_refl _ | omega | (simp only [next_push, next_set, next_kill]; omega)))))⟩

-- laws.szHoldS
theorem szHoldS_c {α : Type} {e : α → List Value} {l : List α} {v : Value} {k : Int} {H : AHeap} (ha : Sl H e 2 v l) (hl : l.length ≤ 9223372036854775807) (hk : k = 0 ∨ 0 ≤ k ∧ k ≤ 1048576) : ACd Try.prog 21 [v, .int .i64 k] H (.int .i64 (if k - l.length < 0 then -1 else k - l.length)) (H) := by
  refine ac_gc0 (fun β => VR.plainT β (by first | rfl | simp [plainT, plainV, plain1])) (ac_body Try.func21 rfl Try.ntmps21 rfl ?_)
  refine aw_seq ?_
  refine aw_region ?_
  refine al_opd rfl rfl rfl (ao_as (v := .int _ _) rfl) ?_
  refine al_nilT ?_
  refine aw_seq ?_
  refine aw_region ?_
  refine al_opd rfl rfl rfl (ao_mv (v := .int _ _) rfl) ?_
  first | refine al_opd rfl rfl rfl (ao_mv (v := .slice _ _ _) rfl) ?_ | refine al_opd rfl rfl rfl (ao_mv (v := v) rfl) ?_
  first | refine al_opd rfl rfl rfl (ao_lenS Try.underlying25 (by rfl)) ?_ | refine al_opd rfl rfl rfl (ao_lenN Try.underlying25 (by rfl)) ?_ | refine al_opd rfl rfl rfl (ao_lenV Try.underlying25 rfl ha) ?_
  first | refine al_opd rfl rfl rfl ((ao_sub rfl rfl).val (nw_i64 (by first | omega | decide) (by first | omega | decide))) ?_ | refine al_opd rfl rfl rfl (ao_sub rfl rfl) ?_
  refine al_opd rfl rfl rfl (ao_as (v := .int _ _) rfl) ?_
  refine al_nilT ?_
  refine aw_seq ?_
  refine aw_seq ?_
  refine aw_region ?_
  refine al_opd rfl rfl rfl (ao_mv (v := .int _ _) rfl) ?_
  refine al_opd rfl rfl rfl (ao_lss rfl rfl) ?_
  refine al_nilT ?_
  refine aw_cond rfl (fun h1_ => ?_) (fun h1_ => ?_)
  · try simp only [decide_eq_true_eq, decide_eq_false_iff_not, Bool.not_eq_true', Bool.not_eq_false', Bool.and_eq_true, Bool.or_eq_true, Bool.and_eq_false_iff, Bool.or_eq_false_iff, beq_iff_eq, bne_iff_ne, beq_eq_false_iff_ne, bne_eq_false_iff_eq, ne_eq, Decidable.not_not, Bool.decide_eq_true] at h1_
    refine aw_seq ?_
    refine aw_region ?_
    refine al_opd rfl rfl rfl (ao_as (v := .int _ _) rfl) ?_
    refine al_nilT ?_
    refine aw_ret ?_
    refine thenA_r ?_
    refine ends1 rfl (rv_tmp (v := .int _ _) rfl) ?_
    exact ⟨by rw [if_pos (by omega)], by (repeat (first | exact Same.refl _ _ | assumption | refine Same.push ?_ (by (first | exact Nat.le_refl _ | omega | (simp only [next_push, next_set, next_kill]; omega))) _ | refine Same.set ?_ (by (first | exact Nat.le_refl _ | omega | (simp only [next_push, next_set, next_kill]; omega))) _ | refine Same.kill ?_ (by (first | exact Nat.le_refl _ | omega | (simp only [next_push, next_set, next_kill]; omega)))))⟩
  · try simp only [decide_eq_true_eq, decide_eq_false_iff_not, Bool.not_eq_true', Bool.not_eq_false', Bool.and_eq_true, Bool.or_eq_true, Bool.and_eq_false_iff, Bool.or_eq_false_iff, beq_iff_eq, bne_iff_ne, beq_eq_false_iff_ne, bne_eq_false_iff_eq, ne_eq, Decidable.not_not, Bool.decide_eq_true] at h1_
    refine aw_skipT ?_
    refine aw_seq ?_
    refine aw_region ?_
    refine al_opd rfl rfl rfl (ao_mv (v := .int _ _) rfl) ?_
    refine al_opd rfl rfl rfl (ao_as (v := .int _ _) rfl) ?_
    refine al_nilT ?_
    refine aw_ret ?_
    refine ends1 rfl (rv_tmp (v := .int _ _) rfl) ?_
    exact ⟨by rw [if_neg (by omega)], by (repeat (first | exact Same.refl _ _ | assumption | refine Same.push ?_ (by (first | exact Nat.le_refl _ | omega | (simp only [next_push, next_set, next_kill]; omega))) _ | refine Same.set ?_ (by (first | exact Nat.le_refl _ | omega | (simp only [next_push, next_set, next_kill]; omega))) _ | refine Same.kill ?_ (by (first | exact Nat.le_refl _ | omega | (simp only [next_push, next_set, next_kill]; omega)))))⟩

-- laws.szSaidS
theorem szSaidS_c {α : Type} {e : α → List Value} {l : List α} {v : Value} {k : Int} {H : AHeap} (ha : Sl H e 2 v l) (hl : l.length ≤ 9223372036854775807) (hk : k = 0 ∨ 0 ≤ k ∧ k ≤ 1048576) : ACd Try.prog 56 [v, .int .i64 k] H (.int .i64 (if k - l.length < 0 then -1 else k - l.length)) (H) := by
  refine ac_gc0 (fun β => VR.plainT β (by first | rfl | simp [plainT, plainV, plain1])) (ac_body Try.func56 rfl Try.ntmps56 rfl ?_)
  refine aw_seq ?_
  refine aw_region ?_
  refine al_opd rfl rfl rfl (ao_as (v := .int _ _) rfl) ?_
  refine al_nilT ?_
  refine aw_seq ?_
  refine aw_region ?_
  refine al_opd rfl rfl rfl (ao_mv (v := .int _ _) rfl) ?_
  first | refine al_opd rfl rfl rfl (ao_mv (v := .slice _ _ _) rfl) ?_ | refine al_opd rfl rfl rfl (ao_mv (v := v) rfl) ?_
  first | refine al_opd rfl rfl rfl (ao_lenS Try.underlying64 (by rfl)) ?_ | refine al_opd rfl rfl rfl (ao_lenN Try.underlying64 (by rfl)) ?_ | refine al_opd rfl rfl rfl (ao_lenV Try.underlying64 rfl ha) ?_
  first | refine al_opd rfl rfl rfl ((ao_sub rfl rfl).val (nw_i64 (by first | omega | decide) (by first | omega | decide))) ?_ | refine al_opd rfl rfl rfl (ao_sub rfl rfl) ?_
  refine al_opd rfl rfl rfl (ao_as (v := .int _ _) rfl) ?_
  refine al_nilT ?_
  refine aw_seq ?_
  refine aw_seq ?_
  refine aw_region ?_
  refine al_opd rfl rfl rfl (ao_mv (v := .int _ _) rfl) ?_
  refine al_opd rfl rfl rfl (ao_lss rfl rfl) ?_
  refine al_nilT ?_
  refine aw_cond rfl (fun h1_ => ?_) (fun h1_ => ?_)
  · try simp only [decide_eq_true_eq, decide_eq_false_iff_not, Bool.not_eq_true', Bool.not_eq_false', Bool.and_eq_true, Bool.or_eq_true, Bool.and_eq_false_iff, Bool.or_eq_false_iff, beq_iff_eq, bne_iff_ne, beq_eq_false_iff_ne, bne_eq_false_iff_eq, ne_eq, Decidable.not_not, Bool.decide_eq_true] at h1_
    refine aw_seq ?_
    refine aw_region ?_
    refine al_opd rfl rfl rfl (ao_as (v := .int _ _) rfl) ?_
    refine al_nilT ?_
    refine aw_ret ?_
    refine thenA_r ?_
    refine ends1 rfl (rv_tmp (v := .int _ _) rfl) ?_
    exact ⟨by rw [if_pos (by omega)], by (repeat (first | exact Same.refl _ _ | assumption | refine Same.push ?_ (by (first | exact Nat.le_refl _ | omega | (simp only [next_push, next_set, next_kill]; omega))) _ | refine Same.set ?_ (by (first | exact Nat.le_refl _ | omega | (simp only [next_push, next_set, next_kill]; omega))) _ | refine Same.kill ?_ (by (first | exact Nat.le_refl _ | omega | (simp only [next_push, next_set, next_kill]; omega)))))⟩
  · try simp only [decide_eq_true_eq, decide_eq_false_iff_not, Bool.not_eq_true', Bool.not_eq_false', Bool.and_eq_true, Bool.or_eq_true, Bool.and_eq_false_iff, Bool.or_eq_false_iff, beq_iff_eq, bne_iff_ne, beq_eq_false_iff_ne, bne_eq_false_iff_eq, ne_eq, Decidable.not_not, Bool.decide_eq_true] at h1_
    refine aw_skipT ?_
    refine aw_seq ?_
    refine aw_region ?_
    refine al_opd rfl rfl rfl (ao_mv (v := .int _ _) rfl) ?_
    refine al_opd rfl rfl rfl (ao_as (v := .int _ _) rfl) ?_
    refine al_nilT ?_
    refine aw_ret ?_
    refine ends1 rfl (rv_tmp (v := .int _ _) rfl) ?_
    exact ⟨by rw [if_neg (by omega)], by (repeat (first | exact Same.refl _ _ | assumption | refine Same.push ?_ (by (first | exact Nat.le_refl _ | omega | (simp only [next_push, next_set, next_kill]; omega))) _ | refine Same.set ?_ (by (first | exact Nat.le_refl _ | omega | (simp only [next_push, next_set, next_kill]; omega))) _ | refine Same.kill ?_ (by (first | exact Nat.le_refl _ | omega | (simp only [next_push, next_set, next_kill]; omega)))))⟩

-- laws.eqHold
theorem eqHold1_c {x y : Hold} {H : AHeap} : ACd Try.prog 72 [.agg #[.int .i16 x.who, .int .i8 x.knot], .agg #[.int .i16 y.who, .int .i8 y.knot]] H (.bool (decide (x = y))) (H) := by
  refine ac_gc0 (fun β => VR.plainT β (by first | rfl | simp [plainT, plainV, plain1])) (ac_body Try.func72 rfl Try.ntmps72 rfl ?_)
  refine aw_seq ?_
  refine aw_region ?_
  refine al_opd rfl rfl rfl (ao_boxa (by rfl)) ?_
  refine al_opd rfl rfl rfl (ao_boxa (by rfl)) ?_
  refine al_opd rfl rfl rfl (ao_as (v := .bool _) rfl) ?_
  refine al_nilT ?_
  refine aw_seq ?_
  refine aw_seq ?_
  refine aw_region ?_
  refine al_opd rfl rfl rfl (ao_fieldAddr fo_81_0 rfl) ?_
  refine al_opd rfl rfl rfl (ao_load (v := .int _ _) Try.isAgg31 (by rfl) (by ((repeat (first | exact blk_push_new _ _ | assumption | apply blk_push_old | apply blk_set_same | refine (blk_set_ne (by first | assumption | omega | (simp only [next_push, next_set, next_kill, ne_eq]; omega))).trans ?_ | refine (blk_kill_ne (by first | assumption | omega | (simp only [next_push, next_set, next_kill, ne_eq]; omega))).trans ?_)); (first | done | fail))) (by rfl) (by first | rfl | (simp; (first | done | fail)))) ?_
  refine al_opd rfl rfl rfl (ao_fieldAddr fo_81_0 rfl) ?_
  refine al_opd rfl rfl rfl (ao_load (v := .int _ _) Try.isAgg31 (by rfl) (by ((repeat (first | exact blk_push_new _ _ | assumption | apply blk_push_old | apply blk_set_same | refine (blk_set_ne (by first | assumption | omega | (simp only [next_push, next_set, next_kill, ne_eq]; omega))).trans ?_ | refine (blk_kill_ne (by first | assumption | omega | (simp only [next_push, next_set, next_kill, ne_eq]; omega))).trans ?_)); (first | done | fail))) (by rfl) (by first | rfl | (simp; (first | done | fail)))) ?_
  refine al_opd rfl rfl rfl (ao_neq rfl rfl) ?_
  refine al_nilT ?_
  refine aw_cond rfl (fun h1_ => ?_) (fun h1_ => ?_)
  · try simp only [decide_eq_true_eq, decide_eq_false_iff_not, Bool.not_eq_true', Bool.not_eq_false', Bool.and_eq_true, Bool.or_eq_true, Bool.and_eq_false_iff, Bool.or_eq_false_iff, beq_iff_eq, bne_iff_ne, beq_eq_false_iff_ne, bne_eq_false_iff_eq, ne_eq, Decidable.not_not, Bool.decide_eq_true] at h1_
    refine aw_seq ?_
    refine aw_region ?_
    refine al_opd rfl rfl rfl (ao_as (v := .bool _) rfl) ?_
    refine al_nilT ?_
    refine aw_ret ?_
    refine thenA_r ?_
    refine ends1 rfl (rv_tmp (v := .bool _) rfl) ?_
    exact ⟨by rw [decide_eq_false (fun e => h1_ (by rw [e]))], by (repeat (first | exact Same.refl _ _ | assumption | refine Same.push ?_ (by (first | exact Nat.le_refl _ | omega | (simp only [next_push, next_set, next_kill]; omega))) _ | refine Same.set ?_ (by (first | exact Nat.le_refl _ | omega | (simp only [next_push, next_set, next_kill]; omega))) _ | refine Same.kill ?_ (by (first | exact Nat.le_refl _ | omega | (simp only [next_push, next_set, next_kill]; omega)))))⟩
  · try simp only [decide_eq_true_eq, decide_eq_false_iff_not, Bool.not_eq_true', Bool.not_eq_false', Bool.and_eq_true, Bool.or_eq_true, Bool.and_eq_false_iff, Bool.or_eq_false_iff, beq_iff_eq, bne_iff_ne, beq_eq_false_iff_ne, bne_eq_false_iff_eq, ne_eq, Decidable.not_not, Bool.decide_eq_true] at h1_
    refine aw_skipT ?_
    refine aw_seq ?_
    refine aw_seq ?_
    refine aw_region ?_
    refine al_opd rfl rfl rfl (ao_fieldAddr fo_81_1 rfl) ?_
    refine al_opd rfl rfl rfl (ao_load (v := .int _ _) Try.isAgg79 (by rfl) (by ((repeat (first | exact blk_push_new _ _ | assumption | apply blk_push_old | apply blk_set_same | refine (blk_set_ne (by first | assumption | omega | (simp only [next_push, next_set, next_kill, ne_eq]; omega))).trans ?_ | refine (blk_kill_ne (by first | assumption | omega | (simp only [next_push, next_set, next_kill, ne_eq]; omega))).trans ?_)); (first | done | fail))) (by rfl) (by first | rfl | (simp; (first | done | fail)))) ?_
    refine al_opd rfl rfl rfl (ao_fieldAddr fo_81_1 rfl) ?_
    refine al_opd rfl rfl rfl (ao_load (v := .int _ _) Try.isAgg79 (by rfl) (by ((repeat (first | exact blk_push_new _ _ | assumption | apply blk_push_old | apply blk_set_same | refine (blk_set_ne (by first | assumption | omega | (simp only [next_push, next_set, next_kill, ne_eq]; omega))).trans ?_ | refine (blk_kill_ne (by first | assumption | omega | (simp only [next_push, next_set, next_kill, ne_eq]; omega))).trans ?_)); (first | done | fail))) (by rfl) (by first | rfl | (simp; (first | done | fail)))) ?_
    refine al_opd rfl rfl rfl (ao_neq rfl rfl) ?_
    refine al_nilT ?_
    refine aw_cond rfl (fun h2_ => ?_) (fun h2_ => ?_)
    · try simp only [decide_eq_true_eq, decide_eq_false_iff_not, Bool.not_eq_true', Bool.not_eq_false', Bool.and_eq_true, Bool.or_eq_true, Bool.and_eq_false_iff, Bool.or_eq_false_iff, beq_iff_eq, bne_iff_ne, beq_eq_false_iff_ne, bne_eq_false_iff_eq, ne_eq, Decidable.not_not, Bool.decide_eq_true] at h2_
      refine aw_seq ?_
      refine aw_region ?_
      refine al_opd rfl rfl rfl (ao_as (v := .bool _) rfl) ?_
      refine al_nilT ?_
      refine aw_ret ?_
      refine thenA_r ?_
      refine ends1 rfl (rv_tmp (v := .bool _) rfl) ?_
      exact ⟨by rw [decide_eq_false (fun e => h2_ (by rw [e]))], by (repeat (first | exact Same.refl _ _ | assumption | refine Same.push ?_ (by (first | exact Nat.le_refl _ | omega | (simp only [next_push, next_set, next_kill]; omega))) _ | refine Same.set ?_ (by (first | exact Nat.le_refl _ | omega | (simp only [next_push, next_set, next_kill]; omega))) _ | refine Same.kill ?_ (by (first | exact Nat.le_refl _ | omega | (simp only [next_push, next_set, next_kill]; omega)))))⟩
    · try simp only [decide_eq_true_eq, decide_eq_false_iff_not, Bool.not_eq_true', Bool.not_eq_false', Bool.and_eq_true, Bool.or_eq_true, Bool.and_eq_false_iff, Bool.or_eq_false_iff, beq_iff_eq, bne_iff_ne, beq_eq_false_iff_ne, bne_eq_false_iff_eq, ne_eq, Decidable.not_not, Bool.decide_eq_true] at h2_
      refine aw_skipT ?_
      refine aw_seq ?_
      refine aw_region ?_
      refine al_opd rfl rfl rfl (ao_as (v := .bool _) rfl) ?_
      refine al_nilT ?_
      refine aw_ret ?_
      refine ends1 rfl (rv_tmp (v := .bool _) rfl) ?_
      exact ⟨by rw [decide_eq_true (hold_ext h1_ h2_)], by (repeat (first | exact Same.refl _ _ | assumption | refine Same.push ?_ (by (first | exact Nat.le_refl _ | omega | (simp only [next_push, next_set, next_kill]; omega))) _ | refine Same.set ?_ (by (first | exact Nat.le_refl _ | omega | (simp only [next_push, next_set, next_kill]; omega))) _ | refine Same.kill ?_ (by (first | exact Nat.le_refl _ | omega | (simp only [next_push, next_set, next_kill]; omega)))))⟩

-- laws.toHold
theorem toHold1_c {x : Hold} {H : AHeap} : ACd Try.prog 70 [.agg #[.int .i16 x.who, .int .i8 x.knot]] H (.agg #[.int .i16 x.who, .int .i8 x.knot]) (H) := by
  refine ac_gc0 (fun β => VR.plainT β (by first | rfl | simp [plainT, plainV, plain1])) (ac_body Try.func70 rfl Try.ntmps70 rfl ?_)
  refine aw_seq ?_
  refine aw_region ?_
  refine al_opd rfl rfl rfl (ao_boxa (by rfl)) ?_
  refine al_opd rfl rfl rfl (ao_alloca (zv81) (by rfl)) ?_
  refine al_nilT ?_
  refine aw_seq ?_
  refine aw_region ?_
  refine al_opd rfl rfl rfl (ao_alloca (zv81) (by rfl)) ?_
  refine al_nilT ?_
  refine aw_seq ?_
  refine aw_region ?_
  refine al_opd rfl rfl rfl (ao_fieldAddr fo_83_0 rfl) ?_
  refine al_opd rfl rfl rfl (ao_load (v := .int _ _) Try.isAgg31 (by rfl) (by ((repeat (first | exact blk_push_new _ _ | assumption | apply blk_push_old | apply blk_set_same | refine (blk_set_ne (by first | assumption | omega | (simp only [next_push, next_set, next_kill, ne_eq]; omega))).trans ?_ | refine (blk_kill_ne (by first | assumption | omega | (simp only [next_push, next_set, next_kill, ne_eq]; omega))).trans ?_)); (first | done | fail))) (by rfl) (by first | rfl | (simp; (first | done | fail)))) ?_
  refine al_opd rfl rfl rfl (ao_fieldAddr fo_81_0 rfl) ?_
  refine al_opd rfl rfl rfl ((ao_store1 (v := .int _ _) Try.sizeOf31 (by rfl) (by rfl) (by ((repeat (first | exact blk_push_new _ _ | assumption | apply blk_push_old | apply blk_set_same | refine (blk_set_ne (by first | assumption | omega | (simp only [next_push, next_set, next_kill, ne_eq]; omega))).trans ?_ | refine (blk_kill_ne (by first | assumption | omega | (simp only [next_push, next_set, next_kill, ne_eq]; omega))).trans ?_)); (first | done | fail))) (by rfl) (by first | decide | (simp; (first | done | fail)) | (simp; omega))).to (SetR.eq (by (repeat (first | exact SetR.new | exact SetR.same | (apply SetR.old; · exact ⟨_, by ((repeat (first | exact blk_push_new _ _ | assumption | apply blk_push_old | apply blk_set_same | refine (blk_set_ne (by first | assumption | omega | (simp only [next_push, next_set, next_kill, ne_eq]; omega))).trans ?_ | refine (blk_kill_ne (by first | assumption | omega | (simp only [next_push, next_set, next_kill, ne_eq]; omega))).trans ?_)); (first | done | fail))⟩) | exact SetR.base))))) ?_
  refine al_nilT ?_
  refine aw_seq ?_
  refine aw_region ?_
  refine al_opd rfl rfl rfl (ao_fieldAddr fo_83_1 rfl) ?_
  refine al_opd rfl rfl rfl (ao_load (v := .int _ _) Try.isAgg79 (by rfl) (by ((repeat (first | exact blk_push_new _ _ | assumption | apply blk_push_old | apply blk_set_same | refine (blk_set_ne (by first | assumption | omega | (simp only [next_push, next_set, next_kill, ne_eq]; omega))).trans ?_ | refine (blk_kill_ne (by first | assumption | omega | (simp only [next_push, next_set, next_kill, ne_eq]; omega))).trans ?_)); (first | done | fail))) (by rfl) (by first | rfl | (simp; (first | done | fail)))) ?_
  refine al_opd rfl rfl rfl (ao_fieldAddr fo_81_1 rfl) ?_
  refine al_opd rfl rfl rfl ((ao_store1 (v := .int _ _) Try.sizeOf79 (by rfl) (by rfl) (by ((repeat (first | exact blk_push_new _ _ | assumption | apply blk_push_old | apply blk_set_same | refine (blk_set_ne (by first | assumption | omega | (simp only [next_push, next_set, next_kill, ne_eq]; omega))).trans ?_ | refine (blk_kill_ne (by first | assumption | omega | (simp only [next_push, next_set, next_kill, ne_eq]; omega))).trans ?_)); (first | done | fail))) (by rfl) (by first | decide | (simp; (first | done | fail)) | (simp; omega))).to (SetR.eq (by (repeat (first | exact SetR.new | exact SetR.same | (apply SetR.old; · exact ⟨_, by ((repeat (first | exact blk_push_new _ _ | assumption | apply blk_push_old | apply blk_set_same | refine (blk_set_ne (by first | assumption | omega | (simp only [next_push, next_set, next_kill, ne_eq]; omega))).trans ?_ | refine (blk_kill_ne (by first | assumption | omega | (simp only [next_push, next_set, next_kill, ne_eq]; omega))).trans ?_)); (first | done | fail))⟩) | exact SetR.base))))) ?_
  refine al_nilT ?_
  refine aw_seq ?_
  refine aw_region ?_
  refine al_opd rfl rfl rfl (ao_loada Try.isAgg81 Try.sizeOf81 rfl (by ((repeat (first | exact blk_push_new _ _ | assumption | apply blk_push_old | apply blk_set_same | refine (blk_set_ne (by first | assumption | omega | (simp only [next_push, next_set, next_kill, ne_eq]; omega))).trans ?_ | refine (blk_kill_ne (by first | assumption | omega | (simp only [next_push, next_set, next_kill, ne_eq]; omega))).trans ?_)); (first | done | fail))) (by rfl) (by first | rfl | (simp; (first | done | fail)))) ?_
  first | refine al_opd rfl rfl rfl ((ao_storeL Try.sizeOf81 (by rfl) (by rfl) (by ((repeat (first | exact blk_push_new _ _ | assumption | apply blk_push_old | apply blk_set_same | refine (blk_set_ne (by first | assumption | omega | (simp only [next_push, next_set, next_kill, ne_eq]; omega))).trans ?_ | refine (blk_kill_ne (by first | assumption | omega | (simp only [next_push, next_set, next_kill, ne_eq]; omega))).trans ?_)); (first | done | fail))) (by first | rfl | (simp; (first | done | fail))) (by first | rfl | (simp; (first | done | fail))) (by first | rfl | (simp; (first | done | fail)))).to (SetR.eq (by (repeat (first | exact SetR.new | exact SetR.same | (apply SetR.old; · exact ⟨_, by ((repeat (first | exact blk_push_new _ _ | assumption | apply blk_push_old | apply blk_set_same | refine (blk_set_ne (by first | assumption | omega | (simp only [next_push, next_set, next_kill, ne_eq]; omega))).trans ?_ | refine (blk_kill_ne (by first | assumption | omega | (simp only [next_push, next_set, next_kill, ne_eq]; omega))).trans ?_)); (first | done | fail))⟩) | exact SetR.base))))) ?_ | refine al_opd rfl rfl rfl ((ao_storeP (ds := [.int _ _, .int _ _]) Try.sizeOf81 (by rfl) (by rfl) (by ((repeat (first | exact blk_push_new _ _ | assumption | apply blk_push_old | apply blk_set_same | refine (blk_set_ne (by first | assumption | omega | (simp only [next_push, next_set, next_kill, ne_eq]; omega))).trans ?_ | refine (blk_kill_ne (by first | assumption | omega | (simp only [next_push, next_set, next_kill, ne_eq]; omega))).trans ?_)); (first | done | fail))) (by first | rfl | (simp; (first | done | fail))) (by first | rfl | (simp; (first | done | fail))) (by first | decide | (simp; (first | done | fail)) | (simp; omega))).to (SetR.eq (by (repeat (first | exact SetR.new | exact SetR.same | (apply SetR.old; · exact ⟨_, by ((repeat (first | exact blk_push_new _ _ | assumption | apply blk_push_old | apply blk_set_same | refine (blk_set_ne (by first | assumption | omega | (simp only [next_push, next_set, next_kill, ne_eq]; omega))).trans ?_ | refine (blk_kill_ne (by first | assumption | omega | (simp only [next_push, next_set, next_kill, ne_eq]; omega))).trans ?_)); (first | done | fail))⟩) | exact SetR.base))))) ?_
  refine al_nilT ?_
  refine aw_ret ?_
  refine ends1 rfl (rv_cella Try.isAgg81 Try.sizeOf81 rfl (by ((repeat (first | exact blk_push_new _ _ | assumption | apply blk_push_old | apply blk_set_same | refine (blk_set_ne (by first | assumption | omega | (simp only [next_push, next_set, next_kill, ne_eq]; omega))).trans ?_ | refine (blk_kill_ne (by first | assumption | omega | (simp only [next_push, next_set, next_kill, ne_eq]; omega))).trans ?_)); (first | done | fail))) (by rfl) (by first | rfl | (simp; (first | done | fail)))) ?_
  exact ⟨by first | rfl | (simp [*]; (first | done | fail)), by (repeat (first | exact Same.refl _ _ | assumption | refine Same.push ?_ (by (first | exact Nat.le_refl _ | omega | (simp only [next_push, next_set, next_kill]; omega))) _ | refine Same.set ?_ (by (first | exact Nat.le_refl _ | omega | (simp only [next_push, next_set, next_kill]; omega))) _ | refine Same.kill ?_ (by (first | exact Nat.le_refl _ | omega | (simp only [next_push, next_set, next_kill]; omega)))))⟩

-- laws.eqSaid
theorem eqSaid1_c {x y : Said} {H : AHeap} : ACd Try.prog 95 [.agg #[.int .i64 x.number, .int .i64 x.check], .agg #[.int .i64 y.number, .int .i64 y.check]] H (.bool (decide (x = y))) (H) := by
  refine ac_gc0 (fun β => VR.plainT β (by first | rfl | simp [plainT, plainV, plain1])) (ac_body Try.func95 rfl Try.ntmps95 rfl ?_)
  refine aw_seq ?_
  refine aw_region ?_
  refine al_opd rfl rfl rfl (ao_boxa (by rfl)) ?_
  refine al_opd rfl rfl rfl (ao_boxa (by rfl)) ?_
  refine al_opd rfl rfl rfl (ao_as (v := .bool _) rfl) ?_
  refine al_nilT ?_
  refine aw_seq ?_
  refine aw_seq ?_
  refine aw_region ?_
  refine al_opd rfl rfl rfl (ao_fieldAddr fo_101_0 rfl) ?_
  refine al_opd rfl rfl rfl (ao_load (v := .int _ _) Try.isAgg2 (by rfl) (by ((repeat (first | exact blk_push_new _ _ | assumption | apply blk_push_old | apply blk_set_same | refine (blk_set_ne (by first | assumption | omega | (simp only [next_push, next_set, next_kill, ne_eq]; omega))).trans ?_ | refine (blk_kill_ne (by first | assumption | omega | (simp only [next_push, next_set, next_kill, ne_eq]; omega))).trans ?_)); (first | done | fail))) (by rfl) (by first | rfl | (simp; (first | done | fail)))) ?_
  refine al_opd rfl rfl rfl (ao_fieldAddr fo_101_0 rfl) ?_
  refine al_opd rfl rfl rfl (ao_load (v := .int _ _) Try.isAgg2 (by rfl) (by ((repeat (first | exact blk_push_new _ _ | assumption | apply blk_push_old | apply blk_set_same | refine (blk_set_ne (by first | assumption | omega | (simp only [next_push, next_set, next_kill, ne_eq]; omega))).trans ?_ | refine (blk_kill_ne (by first | assumption | omega | (simp only [next_push, next_set, next_kill, ne_eq]; omega))).trans ?_)); (first | done | fail))) (by rfl) (by first | rfl | (simp; (first | done | fail)))) ?_
  refine al_opd rfl rfl rfl (ao_neq rfl rfl) ?_
  refine al_nilT ?_
  refine aw_cond rfl (fun h1_ => ?_) (fun h1_ => ?_)
  · try simp only [decide_eq_true_eq, decide_eq_false_iff_not, Bool.not_eq_true', Bool.not_eq_false', Bool.and_eq_true, Bool.or_eq_true, Bool.and_eq_false_iff, Bool.or_eq_false_iff, beq_iff_eq, bne_iff_ne, beq_eq_false_iff_ne, bne_eq_false_iff_eq, ne_eq, Decidable.not_not, Bool.decide_eq_true] at h1_
    refine aw_seq ?_
    refine aw_region ?_
    refine al_opd rfl rfl rfl (ao_as (v := .bool _) rfl) ?_
    refine al_nilT ?_
    refine aw_ret ?_
    refine thenA_r ?_
    refine ends1 rfl (rv_tmp (v := .bool _) rfl) ?_
    exact ⟨by rw [decide_eq_false (fun e => h1_ (by rw [e]))], by (repeat (first | exact Same.refl _ _ | assumption | refine Same.push ?_ (by (first | exact Nat.le_refl _ | omega | (simp only [next_push, next_set, next_kill]; omega))) _ | refine Same.set ?_ (by (first | exact Nat.le_refl _ | omega | (simp only [next_push, next_set, next_kill]; omega))) _ | refine Same.kill ?_ (by (first | exact Nat.le_refl _ | omega | (simp only [next_push, next_set, next_kill]; omega)))))⟩
  · try simp only [decide_eq_true_eq, decide_eq_false_iff_not, Bool.not_eq_true', Bool.not_eq_false', Bool.and_eq_true, Bool.or_eq_true, Bool.and_eq_false_iff, Bool.or_eq_false_iff, beq_iff_eq, bne_iff_ne, beq_eq_false_iff_ne, bne_eq_false_iff_eq, ne_eq, Decidable.not_not, Bool.decide_eq_true] at h1_
    refine aw_skipT ?_
    refine aw_seq ?_
    refine aw_seq ?_
    refine aw_region ?_
    refine al_opd rfl rfl rfl (ao_fieldAddr fo_101_1 rfl) ?_
    refine al_opd rfl rfl rfl (ao_load (v := .int _ _) Try.isAgg2 (by rfl) (by ((repeat (first | exact blk_push_new _ _ | assumption | apply blk_push_old | apply blk_set_same | refine (blk_set_ne (by first | assumption | omega | (simp only [next_push, next_set, next_kill, ne_eq]; omega))).trans ?_ | refine (blk_kill_ne (by first | assumption | omega | (simp only [next_push, next_set, next_kill, ne_eq]; omega))).trans ?_)); (first | done | fail))) (by rfl) (by first | rfl | (simp; (first | done | fail)))) ?_
    refine al_opd rfl rfl rfl (ao_fieldAddr fo_101_1 rfl) ?_
    refine al_opd rfl rfl rfl (ao_load (v := .int _ _) Try.isAgg2 (by rfl) (by ((repeat (first | exact blk_push_new _ _ | assumption | apply blk_push_old | apply blk_set_same | refine (blk_set_ne (by first | assumption | omega | (simp only [next_push, next_set, next_kill, ne_eq]; omega))).trans ?_ | refine (blk_kill_ne (by first | assumption | omega | (simp only [next_push, next_set, next_kill, ne_eq]; omega))).trans ?_)); (first | done | fail))) (by rfl) (by first | rfl | (simp; (first | done | fail)))) ?_
    refine al_opd rfl rfl rfl (ao_neq rfl rfl) ?_
    refine al_nilT ?_
    refine aw_cond rfl (fun h2_ => ?_) (fun h2_ => ?_)
    · try simp only [decide_eq_true_eq, decide_eq_false_iff_not, Bool.not_eq_true', Bool.not_eq_false', Bool.and_eq_true, Bool.or_eq_true, Bool.and_eq_false_iff, Bool.or_eq_false_iff, beq_iff_eq, bne_iff_ne, beq_eq_false_iff_ne, bne_eq_false_iff_eq, ne_eq, Decidable.not_not, Bool.decide_eq_true] at h2_
      refine aw_seq ?_
      refine aw_region ?_
      refine al_opd rfl rfl rfl (ao_as (v := .bool _) rfl) ?_
      refine al_nilT ?_
      refine aw_ret ?_
      refine thenA_r ?_
      refine ends1 rfl (rv_tmp (v := .bool _) rfl) ?_
      exact ⟨by rw [decide_eq_false (fun e => h2_ (by rw [e]))], by (repeat (first | exact Same.refl _ _ | assumption | refine Same.push ?_ (by (first | exact Nat.le_refl _ | omega | (simp only [next_push, next_set, next_kill]; omega))) _ | refine Same.set ?_ (by (first | exact Nat.le_refl _ | omega | (simp only [next_push, next_set, next_kill]; omega))) _ | refine Same.kill ?_ (by (first | exact Nat.le_refl _ | omega | (simp only [next_push, next_set, next_kill]; omega)))))⟩
    · try simp only [decide_eq_true_eq, decide_eq_false_iff_not, Bool.not_eq_true', Bool.not_eq_false', Bool.and_eq_true, Bool.or_eq_true, Bool.and_eq_false_iff, Bool.or_eq_false_iff, beq_iff_eq, bne_iff_ne, beq_eq_false_iff_ne, bne_eq_false_iff_eq, ne_eq, Decidable.not_not, Bool.decide_eq_true] at h2_
      refine aw_skipT ?_
      refine aw_seq ?_
      refine aw_region ?_
      refine al_opd rfl rfl rfl (ao_as (v := .bool _) rfl) ?_
      refine al_nilT ?_
      refine aw_ret ?_
      refine ends1 rfl (rv_tmp (v := .bool _) rfl) ?_
      exact ⟨by rw [decide_eq_true (said_ext h1_ h2_)], by (repeat (first | exact Same.refl _ _ | assumption | refine Same.push ?_ (by (first | exact Nat.le_refl _ | omega | (simp only [next_push, next_set, next_kill]; omega))) _ | refine Same.set ?_ (by (first | exact Nat.le_refl _ | omega | (simp only [next_push, next_set, next_kill]; omega))) _ | refine Same.kill ?_ (by (first | exact Nat.le_refl _ | omega | (simp only [next_push, next_set, next_kill]; omega)))))⟩

-- laws.toSaid
theorem toSaid1_c {x : Said} {H : AHeap} : ACd Try.prog 93 [.agg #[.int .i64 x.number, .int .i64 x.check]] H (.agg #[.int .i64 x.number, .int .i64 x.check]) (H) := by
  refine ac_gc0 (fun β => VR.plainT β (by first | rfl | simp [plainT, plainV, plain1])) (ac_body Try.func93 rfl Try.ntmps93 rfl ?_)
  refine aw_seq ?_
  refine aw_region ?_
  refine al_opd rfl rfl rfl (ao_boxa (by rfl)) ?_
  refine al_opd rfl rfl rfl (ao_alloca (zv101) (by rfl)) ?_
  refine al_nilT ?_
  refine aw_seq ?_
  refine aw_region ?_
  refine al_opd rfl rfl rfl (ao_alloca (zv101) (by rfl)) ?_
  refine al_nilT ?_
  refine aw_seq ?_
  refine aw_region ?_
  refine al_opd rfl rfl rfl (ao_fieldAddr fo_104_0 rfl) ?_
  refine al_opd rfl rfl rfl (ao_load (v := .int _ _) Try.isAgg2 (by rfl) (by ((repeat (first | exact blk_push_new _ _ | assumption | apply blk_push_old | apply blk_set_same | refine (blk_set_ne (by first | assumption | omega | (simp only [next_push, next_set, next_kill, ne_eq]; omega))).trans ?_ | refine (blk_kill_ne (by first | assumption | omega | (simp only [next_push, next_set, next_kill, ne_eq]; omega))).trans ?_)); (first | done | fail))) (by rfl) (by first | rfl | (simp; (first | done | fail)))) ?_
  refine al_opd rfl rfl rfl (ao_fieldAddr fo_101_0 rfl) ?_
  refine al_opd rfl rfl rfl ((ao_store1 (v := .int _ _) Try.sizeOf2 (by rfl) (by rfl) (by ((repeat (first | exact blk_push_new _ _ | assumption | apply blk_push_old | apply blk_set_same | refine (blk_set_ne (by first | assumption | omega | (simp only [next_push, next_set, next_kill, ne_eq]; omega))).trans ?_ | refine (blk_kill_ne (by first | assumption | omega | (simp only [next_push, next_set, next_kill, ne_eq]; omega))).trans ?_)); (first | done | fail))) (by rfl) (by first | decide | (simp; (first | done | fail)) | (simp; omega))).to (SetR.eq (by (repeat (first | exact SetR.new | exact SetR.same | (apply SetR.old; · exact ⟨_, by ((repeat (first | exact blk_push_new _ _ | assumption | apply blk_push_old | apply blk_set_same | refine (blk_set_ne (by first | assumption | omega | (simp only [next_push, next_set, next_kill, ne_eq]; omega))).trans ?_ | refine (blk_kill_ne (by first | assumption | omega | (simp only [next_push, next_set, next_kill, ne_eq]; omega))).trans ?_)); (first | done | fail))⟩) | exact SetR.base))))) ?_
  refine al_nilT ?_
  refine aw_seq ?_
  refine aw_region ?_
  refine al_opd rfl rfl rfl (ao_fieldAddr fo_104_1 rfl) ?_
  refine al_opd rfl rfl rfl (ao_load (v := .int _ _) Try.isAgg2 (by rfl) (by ((repeat (first | exact blk_push_new _ _ | assumption | apply blk_push_old | apply blk_set_same | refine (blk_set_ne (by first | assumption | omega | (simp only [next_push, next_set, next_kill, ne_eq]; omega))).trans ?_ | refine (blk_kill_ne (by first | assumption | omega | (simp only [next_push, next_set, next_kill, ne_eq]; omega))).trans ?_)); (first | done | fail))) (by rfl) (by first | rfl | (simp; (first | done | fail)))) ?_
  refine al_opd rfl rfl rfl (ao_fieldAddr fo_101_1 rfl) ?_
  refine al_opd rfl rfl rfl ((ao_store1 (v := .int _ _) Try.sizeOf2 (by rfl) (by rfl) (by ((repeat (first | exact blk_push_new _ _ | assumption | apply blk_push_old | apply blk_set_same | refine (blk_set_ne (by first | assumption | omega | (simp only [next_push, next_set, next_kill, ne_eq]; omega))).trans ?_ | refine (blk_kill_ne (by first | assumption | omega | (simp only [next_push, next_set, next_kill, ne_eq]; omega))).trans ?_)); (first | done | fail))) (by rfl) (by first | decide | (simp; (first | done | fail)) | (simp; omega))).to (SetR.eq (by (repeat (first | exact SetR.new | exact SetR.same | (apply SetR.old; · exact ⟨_, by ((repeat (first | exact blk_push_new _ _ | assumption | apply blk_push_old | apply blk_set_same | refine (blk_set_ne (by first | assumption | omega | (simp only [next_push, next_set, next_kill, ne_eq]; omega))).trans ?_ | refine (blk_kill_ne (by first | assumption | omega | (simp only [next_push, next_set, next_kill, ne_eq]; omega))).trans ?_)); (first | done | fail))⟩) | exact SetR.base))))) ?_
  refine al_nilT ?_
  refine aw_seq ?_
  refine aw_region ?_
  refine al_opd rfl rfl rfl (ao_loada Try.isAgg101 Try.sizeOf101 rfl (by ((repeat (first | exact blk_push_new _ _ | assumption | apply blk_push_old | apply blk_set_same | refine (blk_set_ne (by first | assumption | omega | (simp only [next_push, next_set, next_kill, ne_eq]; omega))).trans ?_ | refine (blk_kill_ne (by first | assumption | omega | (simp only [next_push, next_set, next_kill, ne_eq]; omega))).trans ?_)); (first | done | fail))) (by rfl) (by first | rfl | (simp; (first | done | fail)))) ?_
  first | refine al_opd rfl rfl rfl ((ao_storeL Try.sizeOf101 (by rfl) (by rfl) (by ((repeat (first | exact blk_push_new _ _ | assumption | apply blk_push_old | apply blk_set_same | refine (blk_set_ne (by first | assumption | omega | (simp only [next_push, next_set, next_kill, ne_eq]; omega))).trans ?_ | refine (blk_kill_ne (by first | assumption | omega | (simp only [next_push, next_set, next_kill, ne_eq]; omega))).trans ?_)); (first | done | fail))) (by first | rfl | (simp; (first | done | fail))) (by first | rfl | (simp; (first | done | fail))) (by first | rfl | (simp; (first | done | fail)))).to (SetR.eq (by (repeat (first | exact SetR.new | exact SetR.same | (apply SetR.old; · exact ⟨_, by ((repeat (first | exact blk_push_new _ _ | assumption | apply blk_push_old | apply blk_set_same | refine (blk_set_ne (by first | assumption | omega | (simp only [next_push, next_set, next_kill, ne_eq]; omega))).trans ?_ | refine (blk_kill_ne (by first | assumption | omega | (simp only [next_push, next_set, next_kill, ne_eq]; omega))).trans ?_)); (first | done | fail))⟩) | exact SetR.base))))) ?_ | refine al_opd rfl rfl rfl ((ao_storeP (ds := [.int _ _, .int _ _]) Try.sizeOf101 (by rfl) (by rfl) (by ((repeat (first | exact blk_push_new _ _ | assumption | apply blk_push_old | apply blk_set_same | refine (blk_set_ne (by first | assumption | omega | (simp only [next_push, next_set, next_kill, ne_eq]; omega))).trans ?_ | refine (blk_kill_ne (by first | assumption | omega | (simp only [next_push, next_set, next_kill, ne_eq]; omega))).trans ?_)); (first | done | fail))) (by first | rfl | (simp; (first | done | fail))) (by first | rfl | (simp; (first | done | fail))) (by first | decide | (simp; (first | done | fail)) | (simp; omega))).to (SetR.eq (by (repeat (first | exact SetR.new | exact SetR.same | (apply SetR.old; · exact ⟨_, by ((repeat (first | exact blk_push_new _ _ | assumption | apply blk_push_old | apply blk_set_same | refine (blk_set_ne (by first | assumption | omega | (simp only [next_push, next_set, next_kill, ne_eq]; omega))).trans ?_ | refine (blk_kill_ne (by first | assumption | omega | (simp only [next_push, next_set, next_kill, ne_eq]; omega))).trans ?_)); (first | done | fail))⟩) | exact SetR.base))))) ?_
  refine al_nilT ?_
  refine aw_ret ?_
  refine ends1 rfl (rv_cella Try.isAgg101 Try.sizeOf101 rfl (by ((repeat (first | exact blk_push_new _ _ | assumption | apply blk_push_old | apply blk_set_same | refine (blk_set_ne (by first | assumption | omega | (simp only [next_push, next_set, next_kill, ne_eq]; omega))).trans ?_ | refine (blk_kill_ne (by first | assumption | omega | (simp only [next_push, next_set, next_kill, ne_eq]; omega))).trans ?_)); (first | done | fail))) (by rfl) (by first | rfl | (simp; (first | done | fail)))) ?_
  exact ⟨by first | rfl | (simp [*]; (first | done | fail)), by (repeat (first | exact Same.refl _ _ | assumption | refine Same.push ?_ (by (first | exact Nat.le_refl _ | omega | (simp only [next_push, next_set, next_kill]; omega))) _ | refine Same.set ?_ (by (first | exact Nat.le_refl _ | omega | (simp only [next_push, next_set, next_kill]; omega))) _ | refine Same.kill ?_ (by (first | exact Nat.le_refl _ | omega | (simp only [next_push, next_set, next_kill]; omega)))))⟩

-- laws.eqHoldS
theorem eqHoldS_c {v u : Value} {l m : List Hold} {H : AHeap} (ha : Sl H hold 2 v l) (hb : Sl H hold 2 u m) (hl : l.length ≤ 4194304) : ACd Try.prog 25 [v, u] H (.bool (decide (l = m))) (H) := by
  refine ac_gc0 (fun β => VR.plainT β (by first | rfl | simp [plainT, plainV, plain1])) (ac_body Try.func25 rfl Try.ntmps25 rfl ?_)
  refine aw_seq ?_
  refine aw_region ?_
  refine al_opd rfl rfl rfl (ao_as (v := .bool _) rfl) ?_
  refine al_nilT ?_
  refine aw_seq ?_
  refine aw_seq ?_
  refine aw_region ?_
  first | refine al_opd rfl rfl rfl (ao_mv (v := .slice _ _ _) rfl) ?_ | refine al_opd rfl rfl rfl (ao_mv (v := v) rfl) ?_ | refine al_opd rfl rfl rfl (ao_mv (v := u) rfl) ?_
  first | refine al_opd rfl rfl rfl (ao_lenS Try.underlying28 (by rfl)) ?_ | refine al_opd rfl rfl rfl (ao_lenN Try.underlying28 (by rfl)) ?_ | refine al_opd rfl rfl rfl (ao_lenV Try.underlying28 rfl ha) ?_ | refine al_opd rfl rfl rfl (ao_lenV Try.underlying28 rfl hb) ?_
  first | refine al_opd rfl rfl rfl (ao_mv (v := .slice _ _ _) rfl) ?_ | refine al_opd rfl rfl rfl (ao_mv (v := v) rfl) ?_ | refine al_opd rfl rfl rfl (ao_mv (v := u) rfl) ?_
  first | refine al_opd rfl rfl rfl (ao_lenS Try.underlying28 (by rfl)) ?_ | refine al_opd rfl rfl rfl (ao_lenN Try.underlying28 (by rfl)) ?_ | refine al_opd rfl rfl rfl (ao_lenV Try.underlying28 rfl ha) ?_ | refine al_opd rfl rfl rfl (ao_lenV Try.underlying28 rfl hb) ?_
  refine al_opd rfl rfl rfl (ao_neq rfl rfl) ?_
  refine al_nilT ?_
  refine aw_cond rfl (fun h1_ => ?_) (fun h1_ => ?_)
  · try simp only [decide_eq_true_eq, decide_eq_false_iff_not, Bool.not_eq_true', Bool.not_eq_false', Bool.and_eq_true, Bool.or_eq_true, Bool.and_eq_false_iff, Bool.or_eq_false_iff, beq_iff_eq, bne_iff_ne, beq_eq_false_iff_ne, bne_eq_false_iff_eq, ne_eq, Decidable.not_not, Bool.decide_eq_true] at h1_
    refine aw_seq ?_
    refine aw_region ?_
    refine al_opd rfl rfl rfl (ao_as (v := .bool _) rfl) ?_
    refine al_nilT ?_
    refine aw_ret ?_
    refine thenA_r ?_
    refine ends1 rfl (rv_tmp (v := .bool _) rfl) ?_
    exact ⟨by rw [decide_eq_false (fun e => h1_ (by rw [e]))], by (repeat (first | exact Same.refl _ _ | assumption | refine Same.push ?_ (by (first | exact Nat.le_refl _ | omega | (simp only [next_push, next_set, next_kill]; omega))) _ | refine Same.set ?_ (by (first | exact Nat.le_refl _ | omega | (simp only [next_push, next_set, next_kill]; omega))) _ | refine Same.kill ?_ (by (first | exact Nat.le_refl _ | omega | (simp only [next_push, next_set, next_kill]; omega)))))⟩
  · try simp only [decide_eq_true_eq, decide_eq_false_iff_not, Bool.not_eq_true', Bool.not_eq_false', Bool.and_eq_true, Bool.or_eq_true, Bool.and_eq_false_iff, Bool.or_eq_false_iff, beq_iff_eq, bne_iff_ne, beq_eq_false_iff_ne, bne_eq_false_iff_eq, ne_eq, Decidable.not_not, Bool.decide_eq_true] at h1_
    refine aw_skipT ?_
    refine aw_seq ?_
    refine aw_seq ?_
    refine aw_region ?_
    refine al_opd rfl rfl rfl (ao_as (v := .int _ _) rfl) ?_
    refine al_nilT ?_
    refine aw_block ?_
    refine aw_loop (fun (gk : Nat) (fr : AFr) (G : AHeap) => ∃ get : Nat → Value, fr = ⟨27, get⟩ ∧ (∃ i : Nat, i ≤ l.length ∧ gk = l.length - i ∧ G = H ∧ get 0 = v ∧ get 1 = u ∧ get 5 = .int .i64 i ∧ l.take i = m.take i)) (l.length) ⟨_, rfl, ?_⟩ ?_
    · exact ⟨0, Nat.zero_le _, rfl, rfl, rfl, rfl, rfl, by simp⟩
    · rintro gk fr G ⟨get, rfl, i, hi, rfl, rfl, g0, g1, g5, hq⟩
      have hlen : l.length = m.length := by omega
      refine aw_slot (d := 0) (v := v) (by first | assumption | rfl) ?_
      refine aw_slot (d := 1) (v := u) (by first | assumption | rfl) ?_
      refine aw_slot (d := 5) (v := .int .i64 i) (by first | assumption | rfl) ?_
      refine aw_seq ?_
      refine aw_seq ?_
      refine aw_region ?_
      refine al_opd rfl rfl rfl (ao_mv (v := .int _ _) rfl) ?_
      first | refine al_opd rfl rfl rfl (ao_mv (v := .slice _ _ _) rfl) ?_ | refine al_opd rfl rfl rfl (ao_mv (v := v) rfl) ?_ | refine al_opd rfl rfl rfl (ao_mv (v := u) rfl) ?_
      first | refine al_opd rfl rfl rfl (ao_lenS Try.underlying28 (by rfl)) ?_ | refine al_opd rfl rfl rfl (ao_lenN Try.underlying28 (by rfl)) ?_ | refine al_opd rfl rfl rfl (ao_lenV Try.underlying28 rfl ha) ?_ | refine al_opd rfl rfl rfl (ao_lenV Try.underlying28 rfl hb) ?_
      refine al_opd rfl rfl rfl (ao_lss rfl rfl) ?_
      refine al_nilT ?_
      refine aw_cond rfl (fun h2_ => ?_) (fun h2_ => ?_)
      · try simp only [decide_eq_true_eq, decide_eq_false_iff_not, Bool.not_eq_true', Bool.not_eq_false', Bool.and_eq_true, Bool.or_eq_true, Bool.and_eq_false_iff, Bool.or_eq_false_iff, beq_iff_eq, bne_iff_ne, beq_eq_false_iff_ne, bne_eq_false_iff_eq, ne_eq, Decidable.not_not, Bool.decide_eq_true] at h2_
        obtain ⟨x, hx⟩ := get_lt (show i < l.length by omega)
        obtain ⟨y, hy⟩ := get_lt (show i < m.length by omega)
        refine aw_skipT ?_
        refine aw_seq ?_
        refine aw_block ?_
        refine aw_seq ?_
        refine aw_draw (m := 10) mo (by kernel_rfl) rfl ?_
        first | refine dw_opd rfl rfl rfl (ao_mv (v := .slice _ _ _) rfl) ?_ | refine dw_opd rfl rfl rfl (ao_mv (v := v) rfl) ?_ | refine dw_opd rfl rfl rfl (ao_mv (v := u) rfl) ?_
        refine dw_opd rfl rfl rfl (ao_mv (v := .int _ _) rfl) ?_
        first | refine dw_opd rfl rfl rfl (ao_indexAddrS Try.underlying28 Try.sizeOf81 rfl rfl (by first | omega | decide | (simp; omega)) (by first | omega | decide | (simp; omega))) ?_ | refine dw_opd rfl rfl rfl (ao_indexV Try.underlying28 Try.sizeOf81 rfl rfl ha (by first | omega | decide | (simp; omega)) (by first | omega | decide | (simp; omega))) ?_ | refine dw_opd rfl rfl rfl (ao_indexV Try.underlying28 Try.sizeOf81 rfl rfl hb (by first | omega | decide | (simp; omega)) (by first | omega | decide | (simp; omega))) ?_
        first | refine dw_opd rfl rfl rfl (ao_loada Try.isAgg81 Try.sizeOf81 rfl (by ((repeat (first | exact blk_push_new _ _ | assumption | apply blk_push_old | apply blk_set_same | refine (blk_set_ne (by first | assumption | omega | (simp only [next_push, next_set, next_kill, ne_eq]; omega))).trans ?_ | refine (blk_kill_ne (by first | assumption | omega | (simp only [next_push, next_set, next_kill, ne_eq]; omega))).trans ?_)); (first | done | fail))) (by rfl) (by first | rfl | (simp; (first | done | fail)))) ?_ | refine dw_opd rfl rfl rfl (ao_loadsV (A := #[.int _ _, .int _ _]) Try.isAgg81 Try.sizeOf81 ha rfl (by assumption) rfl (by decide)) ?_ | refine dw_opd rfl rfl rfl (ao_loadsV (A := #[.int _ _, .int _ _]) Try.isAgg81 Try.sizeOf81 hb rfl (by assumption) rfl (by decide)) ?_
        first | refine dw_opd rfl rfl rfl (ao_mv (v := .slice _ _ _) rfl) ?_ | refine dw_opd rfl rfl rfl (ao_mv (v := v) rfl) ?_ | refine dw_opd rfl rfl rfl (ao_mv (v := u) rfl) ?_
        refine dw_opd rfl rfl rfl (ao_mv (v := .int _ _) rfl) ?_
        first | refine dw_opd rfl rfl rfl (ao_indexAddrS Try.underlying28 Try.sizeOf81 rfl rfl (by first | omega | decide | (simp; omega)) (by first | omega | decide | (simp; omega))) ?_ | refine dw_opd rfl rfl rfl (ao_indexV Try.underlying28 Try.sizeOf81 rfl rfl ha (by first | omega | decide | (simp; omega)) (by first | omega | decide | (simp; omega))) ?_ | refine dw_opd rfl rfl rfl (ao_indexV Try.underlying28 Try.sizeOf81 rfl rfl hb (by first | omega | decide | (simp; omega)) (by first | omega | decide | (simp; omega))) ?_
        first | refine dw_opd rfl rfl rfl (ao_loada Try.isAgg81 Try.sizeOf81 rfl (by ((repeat (first | exact blk_push_new _ _ | assumption | apply blk_push_old | apply blk_set_same | refine (blk_set_ne (by first | assumption | omega | (simp only [next_push, next_set, next_kill, ne_eq]; omega))).trans ?_ | refine (blk_kill_ne (by first | assumption | omega | (simp only [next_push, next_set, next_kill, ne_eq]; omega))).trans ?_)); (first | done | fail))) (by rfl) (by first | rfl | (simp; (first | done | fail)))) ?_ | refine dw_opd rfl rfl rfl (ao_loadsV (A := #[.int _ _, .int _ _]) Try.isAgg81 Try.sizeOf81 ha rfl (by assumption) rfl (by decide)) ?_ | refine dw_opd rfl rfl rfl (ao_loadsV (A := #[.int _ _, .int _ _]) Try.isAgg81 Try.sizeOf81 hb rfl (by assumption) rfl (by decide)) ?_
        refine dw_opd rfl rfl rfl (ao_calld (eqHold1_c (x := x) (y := y)) Try.call72 rfl rfl) ?_
        refine dw_opd rfl rfl rfl (ao_not rfl) ?_
        refine dw_end ?_
        refine al_nilT ?_
        refine aw_cond rfl (fun h3_ => ?_) (fun h3_ => ?_)
        · try simp only [decide_eq_true_eq, decide_eq_false_iff_not, Bool.not_eq_true', Bool.not_eq_false', Bool.and_eq_true, Bool.or_eq_true, Bool.and_eq_false_iff, Bool.or_eq_false_iff, beq_iff_eq, bne_iff_ne, beq_eq_false_iff_ne, bne_eq_false_iff_eq, ne_eq, Decidable.not_not, Bool.decide_eq_true] at h3_
          refine aw_seq ?_
          refine aw_region ?_
          refine al_opd rfl rfl rfl (ao_as (v := .bool _) rfl) ?_
          refine al_nilT ?_
          refine aw_ret ?_
          refine blockA_r ?_
          refine thenA_r ?_
          refine thenA_r ?_
          refine blockA_r ?_
          refine thenA_r ?_
          refine ends1 rfl (rv_tmp (v := .bool _) rfl) ?_
          exact ⟨by rw [decide_eq_false (ne_at hx hy h3_)], by (repeat (first | exact Same.refl _ _ | assumption | refine Same.push ?_ (by (first | exact Nat.le_refl _ | omega | (simp only [next_push, next_set, next_kill]; omega))) _ | refine Same.set ?_ (by (first | exact Nat.le_refl _ | omega | (simp only [next_push, next_set, next_kill]; omega))) _ | refine Same.kill ?_ (by (first | exact Nat.le_refl _ | omega | (simp only [next_push, next_set, next_kill]; omega)))))⟩
        · try simp only [decide_eq_true_eq, decide_eq_false_iff_not, Bool.not_eq_true', Bool.not_eq_false', Bool.and_eq_true, Bool.or_eq_true, Bool.and_eq_false_iff, Bool.or_eq_false_iff, beq_iff_eq, bne_iff_ne, beq_eq_false_iff_ne, bne_eq_false_iff_eq, ne_eq, Decidable.not_not, Bool.decide_eq_true] at h3_
          refine aw_skipB ?_
          refine thenA_n ?_
          refine aw_region ?_
          refine al_opd rfl rfl rfl (ao_mv (v := .int _ _) rfl) ?_
          first | refine al_opd rfl rfl rfl ((ao_add rfl rfl).val (nw_i64 (by first | omega | decide) (by first | omega | decide))) ?_ | refine al_opd rfl rfl rfl (ao_add rfl rfl) ?_
          refine al_opd rfl rfl rfl (ao_as (v := .int _ _) rfl) ?_
          refine al_nilT ?_
          exact ⟨_, by omega, _, rfl, i + 1, by omega, rfl, rfl, rfl, rfl, by rfl, take_step hq hx (by rw [hy]; exact congrArg some h3_.symm)⟩
      · try simp only [decide_eq_true_eq, decide_eq_false_iff_not, Bool.not_eq_true', Bool.not_eq_false', Bool.and_eq_true, Bool.or_eq_true, Bool.and_eq_false_iff, Bool.or_eq_false_iff, beq_iff_eq, bne_iff_ne, beq_eq_false_iff_ne, bne_eq_false_iff_eq, ne_eq, Decidable.not_not, Bool.decide_eq_true] at h2_
        refine aw_exit ?_
        refine thenA_x ?_
        refine thenA_x ?_
        refine blockA_hit ?_
        refine thenA_n ?_
        refine aw_seq ?_
        refine aw_region ?_
        refine al_opd rfl rfl rfl (ao_as (v := .bool _) rfl) ?_
        refine al_nilT ?_
        refine aw_ret ?_
        refine ends1 rfl (rv_tmp (v := .bool _) rfl) ?_
        exact ⟨by rw [decide_eq_true (take_all hq (by omega) hlen)], by (repeat (first | exact Same.refl _ _ | assumption | refine Same.push ?_ (by (first | exact Nat.le_refl _ | omega | (simp only [next_push, next_set, next_kill]; omega))) _ | refine Same.set ?_ (by (first | exact Nat.le_refl _ | omega | (simp only [next_push, next_set, next_kill]; omega))) _ | refine Same.kill ?_ (by (first | exact Nat.le_refl _ | omega | (simp only [next_push, next_set, next_kill]; omega)))))⟩

-- laws.eqSaidS
theorem eqSaidS_c {v u : Value} {l m : List Said} {H : AHeap} (ha : Sl H said 2 v l) (hb : Sl H said 2 u m) (hl : l.length ≤ 4194304) : ACd Try.prog 60 [v, u] H (.bool (decide (l = m))) (H) := by
  refine ac_gc0 (fun β => VR.plainT β (by first | rfl | simp [plainT, plainV, plain1])) (ac_body Try.func60 rfl Try.ntmps60 rfl ?_)
  refine aw_seq ?_
  refine aw_region ?_
  refine al_opd rfl rfl rfl (ao_as (v := .bool _) rfl) ?_
  refine al_nilT ?_
  refine aw_seq ?_
  refine aw_seq ?_
  refine aw_region ?_
  first | refine al_opd rfl rfl rfl (ao_mv (v := .slice _ _ _) rfl) ?_ | refine al_opd rfl rfl rfl (ao_mv (v := v) rfl) ?_ | refine al_opd rfl rfl rfl (ao_mv (v := u) rfl) ?_
  first | refine al_opd rfl rfl rfl (ao_lenS Try.underlying67 (by rfl)) ?_ | refine al_opd rfl rfl rfl (ao_lenN Try.underlying67 (by rfl)) ?_ | refine al_opd rfl rfl rfl (ao_lenV Try.underlying67 rfl ha) ?_ | refine al_opd rfl rfl rfl (ao_lenV Try.underlying67 rfl hb) ?_
  first | refine al_opd rfl rfl rfl (ao_mv (v := .slice _ _ _) rfl) ?_ | refine al_opd rfl rfl rfl (ao_mv (v := v) rfl) ?_ | refine al_opd rfl rfl rfl (ao_mv (v := u) rfl) ?_
  first | refine al_opd rfl rfl rfl (ao_lenS Try.underlying67 (by rfl)) ?_ | refine al_opd rfl rfl rfl (ao_lenN Try.underlying67 (by rfl)) ?_ | refine al_opd rfl rfl rfl (ao_lenV Try.underlying67 rfl ha) ?_ | refine al_opd rfl rfl rfl (ao_lenV Try.underlying67 rfl hb) ?_
  refine al_opd rfl rfl rfl (ao_neq rfl rfl) ?_
  refine al_nilT ?_
  refine aw_cond rfl (fun h1_ => ?_) (fun h1_ => ?_)
  · try simp only [decide_eq_true_eq, decide_eq_false_iff_not, Bool.not_eq_true', Bool.not_eq_false', Bool.and_eq_true, Bool.or_eq_true, Bool.and_eq_false_iff, Bool.or_eq_false_iff, beq_iff_eq, bne_iff_ne, beq_eq_false_iff_ne, bne_eq_false_iff_eq, ne_eq, Decidable.not_not, Bool.decide_eq_true] at h1_
    refine aw_seq ?_
    refine aw_region ?_
    refine al_opd rfl rfl rfl (ao_as (v := .bool _) rfl) ?_
    refine al_nilT ?_
    refine aw_ret ?_
    refine thenA_r ?_
    refine ends1 rfl (rv_tmp (v := .bool _) rfl) ?_
    exact ⟨by rw [decide_eq_false (fun e => h1_ (by rw [e]))], by (repeat (first | exact Same.refl _ _ | assumption | refine Same.push ?_ (by (first | exact Nat.le_refl _ | omega | (simp only [next_push, next_set, next_kill]; omega))) _ | refine Same.set ?_ (by (first | exact Nat.le_refl _ | omega | (simp only [next_push, next_set, next_kill]; omega))) _ | refine Same.kill ?_ (by (first | exact Nat.le_refl _ | omega | (simp only [next_push, next_set, next_kill]; omega)))))⟩
  · try simp only [decide_eq_true_eq, decide_eq_false_iff_not, Bool.not_eq_true', Bool.not_eq_false', Bool.and_eq_true, Bool.or_eq_true, Bool.and_eq_false_iff, Bool.or_eq_false_iff, beq_iff_eq, bne_iff_ne, beq_eq_false_iff_ne, bne_eq_false_iff_eq, ne_eq, Decidable.not_not, Bool.decide_eq_true] at h1_
    refine aw_skipT ?_
    refine aw_seq ?_
    refine aw_seq ?_
    refine aw_region ?_
    refine al_opd rfl rfl rfl (ao_as (v := .int _ _) rfl) ?_
    refine al_nilT ?_
    refine aw_block ?_
    refine aw_loop (fun (gk : Nat) (fr : AFr) (G : AHeap) => ∃ get : Nat → Value, fr = ⟨27, get⟩ ∧ (∃ i : Nat, i ≤ l.length ∧ gk = l.length - i ∧ G = H ∧ get 0 = v ∧ get 1 = u ∧ get 5 = .int .i64 i ∧ l.take i = m.take i)) (l.length) ⟨_, rfl, ?_⟩ ?_
    · exact ⟨0, Nat.zero_le _, rfl, rfl, rfl, rfl, rfl, by simp⟩
    · rintro gk fr G ⟨get, rfl, i, hi, rfl, rfl, g0, g1, g5, hq⟩
      have hlen : l.length = m.length := by omega
      refine aw_slot (d := 0) (v := v) (by first | assumption | rfl) ?_
      refine aw_slot (d := 1) (v := u) (by first | assumption | rfl) ?_
      refine aw_slot (d := 5) (v := .int .i64 i) (by first | assumption | rfl) ?_
      refine aw_seq ?_
      refine aw_seq ?_
      refine aw_region ?_
      refine al_opd rfl rfl rfl (ao_mv (v := .int _ _) rfl) ?_
      first | refine al_opd rfl rfl rfl (ao_mv (v := .slice _ _ _) rfl) ?_ | refine al_opd rfl rfl rfl (ao_mv (v := v) rfl) ?_ | refine al_opd rfl rfl rfl (ao_mv (v := u) rfl) ?_
      first | refine al_opd rfl rfl rfl (ao_lenS Try.underlying67 (by rfl)) ?_ | refine al_opd rfl rfl rfl (ao_lenN Try.underlying67 (by rfl)) ?_ | refine al_opd rfl rfl rfl (ao_lenV Try.underlying67 rfl ha) ?_ | refine al_opd rfl rfl rfl (ao_lenV Try.underlying67 rfl hb) ?_
      refine al_opd rfl rfl rfl (ao_lss rfl rfl) ?_
      refine al_nilT ?_
      refine aw_cond rfl (fun h2_ => ?_) (fun h2_ => ?_)
      · try simp only [decide_eq_true_eq, decide_eq_false_iff_not, Bool.not_eq_true', Bool.not_eq_false', Bool.and_eq_true, Bool.or_eq_true, Bool.and_eq_false_iff, Bool.or_eq_false_iff, beq_iff_eq, bne_iff_ne, beq_eq_false_iff_ne, bne_eq_false_iff_eq, ne_eq, Decidable.not_not, Bool.decide_eq_true] at h2_
        obtain ⟨x, hx⟩ := get_lt (show i < l.length by omega)
        obtain ⟨y, hy⟩ := get_lt (show i < m.length by omega)
        refine aw_skipT ?_
        refine aw_seq ?_
        refine aw_block ?_
        refine aw_seq ?_
        refine aw_draw (m := 10) mo (by kernel_rfl) rfl ?_
        first | refine dw_opd rfl rfl rfl (ao_mv (v := .slice _ _ _) rfl) ?_ | refine dw_opd rfl rfl rfl (ao_mv (v := v) rfl) ?_ | refine dw_opd rfl rfl rfl (ao_mv (v := u) rfl) ?_
        refine dw_opd rfl rfl rfl (ao_mv (v := .int _ _) rfl) ?_
        first | refine dw_opd rfl rfl rfl (ao_indexAddrS Try.underlying67 Try.sizeOf101 rfl rfl (by first | omega | decide | (simp; omega)) (by first | omega | decide | (simp; omega))) ?_ | refine dw_opd rfl rfl rfl (ao_indexV Try.underlying67 Try.sizeOf101 rfl rfl ha (by first | omega | decide | (simp; omega)) (by first | omega | decide | (simp; omega))) ?_ | refine dw_opd rfl rfl rfl (ao_indexV Try.underlying67 Try.sizeOf101 rfl rfl hb (by first | omega | decide | (simp; omega)) (by first | omega | decide | (simp; omega))) ?_
        first | refine dw_opd rfl rfl rfl (ao_loada Try.isAgg101 Try.sizeOf101 rfl (by ((repeat (first | exact blk_push_new _ _ | assumption | apply blk_push_old | apply blk_set_same | refine (blk_set_ne (by first | assumption | omega | (simp only [next_push, next_set, next_kill, ne_eq]; omega))).trans ?_ | refine (blk_kill_ne (by first | assumption | omega | (simp only [next_push, next_set, next_kill, ne_eq]; omega))).trans ?_)); (first | done | fail))) (by rfl) (by first | rfl | (simp; (first | done | fail)))) ?_ | refine dw_opd rfl rfl rfl (ao_loadsV (A := #[.int _ _, .int _ _]) Try.isAgg101 Try.sizeOf101 ha rfl (by assumption) rfl (by decide)) ?_ | refine dw_opd rfl rfl rfl (ao_loadsV (A := #[.int _ _, .int _ _]) Try.isAgg101 Try.sizeOf101 hb rfl (by assumption) rfl (by decide)) ?_
        first | refine dw_opd rfl rfl rfl (ao_mv (v := .slice _ _ _) rfl) ?_ | refine dw_opd rfl rfl rfl (ao_mv (v := v) rfl) ?_ | refine dw_opd rfl rfl rfl (ao_mv (v := u) rfl) ?_
        refine dw_opd rfl rfl rfl (ao_mv (v := .int _ _) rfl) ?_
        first | refine dw_opd rfl rfl rfl (ao_indexAddrS Try.underlying67 Try.sizeOf101 rfl rfl (by first | omega | decide | (simp; omega)) (by first | omega | decide | (simp; omega))) ?_ | refine dw_opd rfl rfl rfl (ao_indexV Try.underlying67 Try.sizeOf101 rfl rfl ha (by first | omega | decide | (simp; omega)) (by first | omega | decide | (simp; omega))) ?_ | refine dw_opd rfl rfl rfl (ao_indexV Try.underlying67 Try.sizeOf101 rfl rfl hb (by first | omega | decide | (simp; omega)) (by first | omega | decide | (simp; omega))) ?_
        first | refine dw_opd rfl rfl rfl (ao_loada Try.isAgg101 Try.sizeOf101 rfl (by ((repeat (first | exact blk_push_new _ _ | assumption | apply blk_push_old | apply blk_set_same | refine (blk_set_ne (by first | assumption | omega | (simp only [next_push, next_set, next_kill, ne_eq]; omega))).trans ?_ | refine (blk_kill_ne (by first | assumption | omega | (simp only [next_push, next_set, next_kill, ne_eq]; omega))).trans ?_)); (first | done | fail))) (by rfl) (by first | rfl | (simp; (first | done | fail)))) ?_ | refine dw_opd rfl rfl rfl (ao_loadsV (A := #[.int _ _, .int _ _]) Try.isAgg101 Try.sizeOf101 ha rfl (by assumption) rfl (by decide)) ?_ | refine dw_opd rfl rfl rfl (ao_loadsV (A := #[.int _ _, .int _ _]) Try.isAgg101 Try.sizeOf101 hb rfl (by assumption) rfl (by decide)) ?_
        refine dw_opd rfl rfl rfl (ao_calld (eqSaid1_c (x := x) (y := y)) Try.call95 rfl rfl) ?_
        refine dw_opd rfl rfl rfl (ao_not rfl) ?_
        refine dw_end ?_
        refine al_nilT ?_
        refine aw_cond rfl (fun h3_ => ?_) (fun h3_ => ?_)
        · try simp only [decide_eq_true_eq, decide_eq_false_iff_not, Bool.not_eq_true', Bool.not_eq_false', Bool.and_eq_true, Bool.or_eq_true, Bool.and_eq_false_iff, Bool.or_eq_false_iff, beq_iff_eq, bne_iff_ne, beq_eq_false_iff_ne, bne_eq_false_iff_eq, ne_eq, Decidable.not_not, Bool.decide_eq_true] at h3_
          refine aw_seq ?_
          refine aw_region ?_
          refine al_opd rfl rfl rfl (ao_as (v := .bool _) rfl) ?_
          refine al_nilT ?_
          refine aw_ret ?_
          refine blockA_r ?_
          refine thenA_r ?_
          refine thenA_r ?_
          refine blockA_r ?_
          refine thenA_r ?_
          refine ends1 rfl (rv_tmp (v := .bool _) rfl) ?_
          exact ⟨by rw [decide_eq_false (ne_at hx hy h3_)], by (repeat (first | exact Same.refl _ _ | assumption | refine Same.push ?_ (by (first | exact Nat.le_refl _ | omega | (simp only [next_push, next_set, next_kill]; omega))) _ | refine Same.set ?_ (by (first | exact Nat.le_refl _ | omega | (simp only [next_push, next_set, next_kill]; omega))) _ | refine Same.kill ?_ (by (first | exact Nat.le_refl _ | omega | (simp only [next_push, next_set, next_kill]; omega)))))⟩
        · try simp only [decide_eq_true_eq, decide_eq_false_iff_not, Bool.not_eq_true', Bool.not_eq_false', Bool.and_eq_true, Bool.or_eq_true, Bool.and_eq_false_iff, Bool.or_eq_false_iff, beq_iff_eq, bne_iff_ne, beq_eq_false_iff_ne, bne_eq_false_iff_eq, ne_eq, Decidable.not_not, Bool.decide_eq_true] at h3_
          refine aw_skipB ?_
          refine thenA_n ?_
          refine aw_region ?_
          refine al_opd rfl rfl rfl (ao_mv (v := .int _ _) rfl) ?_
          first | refine al_opd rfl rfl rfl ((ao_add rfl rfl).val (nw_i64 (by first | omega | decide) (by first | omega | decide))) ?_ | refine al_opd rfl rfl rfl (ao_add rfl rfl) ?_
          refine al_opd rfl rfl rfl (ao_as (v := .int _ _) rfl) ?_
          refine al_nilT ?_
          exact ⟨_, by omega, _, rfl, i + 1, by omega, rfl, rfl, rfl, rfl, by rfl, take_step hq hx (by rw [hy]; exact congrArg some h3_.symm)⟩
      · try simp only [decide_eq_true_eq, decide_eq_false_iff_not, Bool.not_eq_true', Bool.not_eq_false', Bool.and_eq_true, Bool.or_eq_true, Bool.and_eq_false_iff, Bool.or_eq_false_iff, beq_iff_eq, bne_iff_ne, beq_eq_false_iff_ne, bne_eq_false_iff_eq, ne_eq, Decidable.not_not, Bool.decide_eq_true] at h2_
        refine aw_exit ?_
        refine thenA_x ?_
        refine thenA_x ?_
        refine blockA_hit ?_
        refine thenA_n ?_
        refine aw_seq ?_
        refine aw_region ?_
        refine al_opd rfl rfl rfl (ao_as (v := .bool _) rfl) ?_
        refine al_nilT ?_
        refine aw_ret ?_
        refine ends1 rfl (rv_tmp (v := .bool _) rfl) ?_
        exact ⟨by rw [decide_eq_true (take_all hq (by omega) hlen)], by (repeat (first | exact Same.refl _ _ | assumption | refine Same.push ?_ (by (first | exact Nat.le_refl _ | omega | (simp only [next_push, next_set, next_kill]; omega))) _ | refine Same.set ?_ (by (first | exact Nat.le_refl _ | omega | (simp only [next_push, next_set, next_kill]; omega))) _ | refine Same.kill ?_ (by (first | exact Nat.le_refl _ | omega | (simp only [next_push, next_set, next_kill]; omega)))))⟩

-- slices.Equal[[]impl.Hold,impl.Hold]
theorem equalHold_c {v u : Value} {l m : List Hold} {H : AHeap} (ha : Sl H hold 2 v l) (hb : Sl H hold 2 u m) (hl : l.length ≤ 4194304) : ACd Try.prog 71 [v, u] H (.bool (decide (l = m))) (H) := by
  refine ac_gc0 (fun β => VR.plainT β (by first | rfl | simp [plainT, plainV, plain1])) (ac_body Try.func71 rfl Try.ntmps71 rfl ?_)
  refine aw_seq ?_
  refine aw_region ?_
  refine al_opd rfl rfl rfl (ao_as (v := .bool _) rfl) ?_
  refine al_nilT ?_
  refine aw_seq ?_
  refine aw_seq ?_
  refine aw_region ?_
  first | refine al_opd rfl rfl rfl (ao_mv (v := .slice _ _ _) rfl) ?_ | refine al_opd rfl rfl rfl (ao_mv (v := v) rfl) ?_ | refine al_opd rfl rfl rfl (ao_mv (v := u) rfl) ?_
  first | refine al_opd rfl rfl rfl (ao_lenS Try.underlying28 (by rfl)) ?_ | refine al_opd rfl rfl rfl (ao_lenN Try.underlying28 (by rfl)) ?_ | refine al_opd rfl rfl rfl (ao_lenV Try.underlying28 rfl ha) ?_ | refine al_opd rfl rfl rfl (ao_lenV Try.underlying28 rfl hb) ?_
  first | refine al_opd rfl rfl rfl (ao_mv (v := .slice _ _ _) rfl) ?_ | refine al_opd rfl rfl rfl (ao_mv (v := v) rfl) ?_ | refine al_opd rfl rfl rfl (ao_mv (v := u) rfl) ?_
  first | refine al_opd rfl rfl rfl (ao_lenS Try.underlying28 (by rfl)) ?_ | refine al_opd rfl rfl rfl (ao_lenN Try.underlying28 (by rfl)) ?_ | refine al_opd rfl rfl rfl (ao_lenV Try.underlying28 rfl ha) ?_ | refine al_opd rfl rfl rfl (ao_lenV Try.underlying28 rfl hb) ?_
  refine al_opd rfl rfl rfl (ao_neq rfl rfl) ?_
  refine al_nilT ?_
  refine aw_cond rfl (fun h1_ => ?_) (fun h1_ => ?_)
  · try simp only [decide_eq_true_eq, decide_eq_false_iff_not, Bool.not_eq_true', Bool.not_eq_false', Bool.and_eq_true, Bool.or_eq_true, Bool.and_eq_false_iff, Bool.or_eq_false_iff, beq_iff_eq, bne_iff_ne, beq_eq_false_iff_ne, bne_eq_false_iff_eq, ne_eq, Decidable.not_not, Bool.decide_eq_true] at h1_
    refine aw_seq ?_
    refine aw_region ?_
    refine al_opd rfl rfl rfl (ao_as (v := .bool _) rfl) ?_
    refine al_nilT ?_
    refine aw_ret ?_
    refine thenA_r ?_
    refine ends1 rfl (rv_tmp (v := .bool _) rfl) ?_
    exact ⟨by rw [decide_eq_false (fun e => h1_ (by rw [e]))], by (repeat (first | exact Same.refl _ _ | assumption | refine Same.push ?_ (by (first | exact Nat.le_refl _ | omega | (simp only [next_push, next_set, next_kill]; omega))) _ | refine Same.set ?_ (by (first | exact Nat.le_refl _ | omega | (simp only [next_push, next_set, next_kill]; omega))) _ | refine Same.kill ?_ (by (first | exact Nat.le_refl _ | omega | (simp only [next_push, next_set, next_kill]; omega)))))⟩
  · try simp only [decide_eq_true_eq, decide_eq_false_iff_not, Bool.not_eq_true', Bool.not_eq_false', Bool.and_eq_true, Bool.or_eq_true, Bool.and_eq_false_iff, Bool.or_eq_false_iff, beq_iff_eq, bne_iff_ne, beq_eq_false_iff_ne, bne_eq_false_iff_eq, ne_eq, Decidable.not_not, Bool.decide_eq_true] at h1_
    refine aw_skipT ?_
    refine aw_seq ?_
    refine aw_seq ?_
    refine aw_region ?_
    first | refine al_opd rfl rfl rfl (ao_mv (v := .slice _ _ _) rfl) ?_ | refine al_opd rfl rfl rfl (ao_mv (v := v) rfl) ?_ | refine al_opd rfl rfl rfl (ao_mv (v := u) rfl) ?_
    first | refine al_opd rfl rfl rfl (ao_lenS Try.underlying28 (by rfl)) ?_ | refine al_opd rfl rfl rfl (ao_lenN Try.underlying28 (by rfl)) ?_ | refine al_opd rfl rfl rfl (ao_lenV Try.underlying28 rfl ha) ?_ | refine al_opd rfl rfl rfl (ao_lenV Try.underlying28 rfl hb) ?_
    refine al_opd rfl rfl rfl (ao_mv (v := .int _ _) rfl) ?_
    refine al_nilT ?_
    refine aw_block ?_
    refine aw_loop (fun (gk : Nat) (fr : AFr) (G : AHeap) => ∃ get : Nat → Value, fr = ⟨26, get⟩ ∧ (∃ i : Nat, i ≤ l.length ∧ gk = l.length - i ∧ G = H ∧ get 0 = v ∧ get 1 = u ∧ get 12 = .int .i64 l.length ∧ get 13 = .int .i64 i ∧ l.take i = m.take i)) (l.length) ⟨_, rfl, ?_⟩ ?_
    · exact ⟨0, Nat.zero_le _, rfl, rfl, rfl, rfl, rfl, rfl, by simp⟩
    · rintro gk fr G ⟨get, rfl, i, hi, rfl, rfl, g0, g1, g12, g13, hq⟩
      have hlen : l.length = m.length := by omega
      refine aw_slot (d := 0) (v := v) (by first | assumption | rfl) ?_
      refine aw_slot (d := 1) (v := u) (by first | assumption | rfl) ?_
      refine aw_slot (d := 12) (v := .int .i64 l.length) (by first | assumption | rfl) ?_
      refine aw_slot (d := 13) (v := .int .i64 i) (by first | assumption | rfl) ?_
      refine aw_seq ?_
      refine aw_region ?_
      refine al_opd rfl rfl rfl (ao_lss rfl rfl) ?_
      refine al_nilT ?_
      refine aw_seq ?_
      refine aw_cond rfl (fun h2_ => ?_) (fun h2_ => ?_)
      · try simp only [decide_eq_true_eq, decide_eq_false_iff_not, Bool.not_eq_true', Bool.not_eq_false', Bool.and_eq_true, Bool.or_eq_true, Bool.and_eq_false_iff, Bool.or_eq_false_iff, beq_iff_eq, bne_iff_ne, beq_eq_false_iff_ne, bne_eq_false_iff_eq, ne_eq, Decidable.not_not, Bool.decide_eq_true] at h2_
        obtain ⟨x, hx⟩ := get_lt (show i < l.length by omega)
        obtain ⟨y, hy⟩ := get_lt (show i < m.length by omega)
        refine aw_skipT ?_
        refine aw_seq ?_
        refine aw_block ?_
        refine aw_seq ?_
        refine aw_region ?_
        refine al_opd rfl rfl rfl (ao_mv (v := .int _ _) rfl) ?_
        refine al_opd rfl rfl rfl (ao_as (v := .int _ _) rfl) ?_
        refine al_nilT ?_
        refine aw_seq ?_
        refine aw_draw (m := 9) mo (by kernel_rfl) rfl ?_
        first | refine dw_opd rfl rfl rfl (ao_mv (v := .slice _ _ _) rfl) ?_ | refine dw_opd rfl rfl rfl (ao_mv (v := v) rfl) ?_ | refine dw_opd rfl rfl rfl (ao_mv (v := u) rfl) ?_
        refine dw_opd rfl rfl rfl (ao_mv (v := .int _ _) rfl) ?_
        first | refine dw_opd rfl rfl rfl (ao_indexAddrS Try.underlying28 Try.sizeOf81 rfl rfl (by first | omega | decide | (simp; omega)) (by first | omega | decide | (simp; omega))) ?_ | refine dw_opd rfl rfl rfl (ao_indexV Try.underlying28 Try.sizeOf81 rfl rfl ha (by first | omega | decide | (simp; omega)) (by first | omega | decide | (simp; omega))) ?_ | refine dw_opd rfl rfl rfl (ao_indexV Try.underlying28 Try.sizeOf81 rfl rfl hb (by first | omega | decide | (simp; omega)) (by first | omega | decide | (simp; omega))) ?_
        first | refine dw_opd rfl rfl rfl (ao_loada Try.isAgg81 Try.sizeOf81 rfl (by ((repeat (first | exact blk_push_new _ _ | assumption | apply blk_push_old | apply blk_set_same | refine (blk_set_ne (by first | assumption | omega | (simp only [next_push, next_set, next_kill, ne_eq]; omega))).trans ?_ | refine (blk_kill_ne (by first | assumption | omega | (simp only [next_push, next_set, next_kill, ne_eq]; omega))).trans ?_)); (first | done | fail))) (by rfl) (by first | rfl | (simp; (first | done | fail)))) ?_ | refine dw_opd rfl rfl rfl (ao_loadsV (A := #[.int _ _, .int _ _]) Try.isAgg81 Try.sizeOf81 ha rfl (by assumption) rfl (by decide)) ?_ | refine dw_opd rfl rfl rfl (ao_loadsV (A := #[.int _ _, .int _ _]) Try.isAgg81 Try.sizeOf81 hb rfl (by assumption) rfl (by decide)) ?_
        first | refine dw_opd rfl rfl rfl (ao_mv (v := .slice _ _ _) rfl) ?_ | refine dw_opd rfl rfl rfl (ao_mv (v := v) rfl) ?_ | refine dw_opd rfl rfl rfl (ao_mv (v := u) rfl) ?_
        refine dw_opd rfl rfl rfl (ao_mv (v := .int _ _) rfl) ?_
        first | refine dw_opd rfl rfl rfl (ao_indexAddrS Try.underlying28 Try.sizeOf81 rfl rfl (by first | omega | decide | (simp; omega)) (by first | omega | decide | (simp; omega))) ?_ | refine dw_opd rfl rfl rfl (ao_indexV Try.underlying28 Try.sizeOf81 rfl rfl ha (by first | omega | decide | (simp; omega)) (by first | omega | decide | (simp; omega))) ?_ | refine dw_opd rfl rfl rfl (ao_indexV Try.underlying28 Try.sizeOf81 rfl rfl hb (by first | omega | decide | (simp; omega)) (by first | omega | decide | (simp; omega))) ?_
        first | refine dw_opd rfl rfl rfl (ao_loada Try.isAgg81 Try.sizeOf81 rfl (by ((repeat (first | exact blk_push_new _ _ | assumption | apply blk_push_old | apply blk_set_same | refine (blk_set_ne (by first | assumption | omega | (simp only [next_push, next_set, next_kill, ne_eq]; omega))).trans ?_ | refine (blk_kill_ne (by first | assumption | omega | (simp only [next_push, next_set, next_kill, ne_eq]; omega))).trans ?_)); (first | done | fail))) (by rfl) (by first | rfl | (simp; (first | done | fail)))) ?_ | refine dw_opd rfl rfl rfl (ao_loadsV (A := #[.int _ _, .int _ _]) Try.isAgg81 Try.sizeOf81 ha rfl (by assumption) rfl (by decide)) ?_ | refine dw_opd rfl rfl rfl (ao_loadsV (A := #[.int _ _, .int _ _]) Try.isAgg81 Try.sizeOf81 hb rfl (by assumption) rfl (by decide)) ?_
        refine dw_opd rfl rfl rfl (ao_neV Try.eqGuardType81 rfl rfl rfl rfl (eqS81 _ _ _ _)) ?_
        refine dw_end ?_
        refine al_nilT ?_
        refine aw_cond rfl (fun h3_ => ?_) (fun h3_ => ?_)
        · try simp only [decide_eq_true_eq, decide_eq_false_iff_not, Bool.not_eq_true', Bool.not_eq_false', Bool.and_eq_true, Bool.or_eq_true, Bool.and_eq_false_iff, Bool.or_eq_false_iff, beq_iff_eq, bne_iff_ne, beq_eq_false_iff_ne, bne_eq_false_iff_eq, ne_eq, Decidable.not_not, Bool.decide_eq_true] at h3_
          refine aw_seq ?_
          refine aw_region ?_
          refine al_opd rfl rfl rfl (ao_as (v := .bool _) rfl) ?_
          refine al_nilT ?_
          refine aw_ret ?_
          refine blockA_r ?_
          refine thenA_r ?_
          refine thenA_r ?_
          refine blockA_r ?_
          refine thenA_r ?_
          refine ends1 rfl (rv_tmp (v := .bool _) rfl) ?_
          exact ⟨by rw [decide_eq_false (ne_at hx hy (fun e => by subst e; simp at h3_))], by (repeat (first | exact Same.refl _ _ | assumption | refine Same.push ?_ (by (first | exact Nat.le_refl _ | omega | (simp only [next_push, next_set, next_kill]; omega))) _ | refine Same.set ?_ (by (first | exact Nat.le_refl _ | omega | (simp only [next_push, next_set, next_kill]; omega))) _ | refine Same.kill ?_ (by (first | exact Nat.le_refl _ | omega | (simp only [next_push, next_set, next_kill]; omega)))))⟩
        · try simp only [decide_eq_true_eq, decide_eq_false_iff_not, Bool.not_eq_true', Bool.not_eq_false', Bool.and_eq_true, Bool.or_eq_true, Bool.and_eq_false_iff, Bool.or_eq_false_iff, beq_iff_eq, bne_iff_ne, beq_eq_false_iff_ne, bne_eq_false_iff_eq, ne_eq, Decidable.not_not, Bool.decide_eq_true] at h3_
          refine aw_skipB ?_
          refine thenA_n ?_
          refine aw_region ?_
          first | refine al_opd rfl rfl rfl ((ao_add rfl rfl).val (nw_i64 (by first | omega | decide) (by first | omega | decide))) ?_ | refine al_opd rfl rfl rfl (ao_add rfl rfl) ?_
          refine al_opd rfl rfl rfl (ao_mv (v := .int _ _) rfl) ?_
          refine al_nilT ?_
          exact ⟨_, by omega, _, rfl, i + 1, by omega, rfl, rfl, rfl, rfl, rfl, by rfl, take_step hq hx (by rw [hy]; exact congrArg some (hold_ext h3_.1 h3_.2).symm)⟩
      · try simp only [decide_eq_true_eq, decide_eq_false_iff_not, Bool.not_eq_true', Bool.not_eq_false', Bool.and_eq_true, Bool.or_eq_true, Bool.and_eq_false_iff, Bool.or_eq_false_iff, beq_iff_eq, bne_iff_ne, beq_eq_false_iff_ne, bne_eq_false_iff_eq, ne_eq, Decidable.not_not, Bool.decide_eq_true] at h2_
        refine aw_exit ?_
        refine thenA_x ?_
        refine thenA_x ?_
        refine blockA_hit ?_
        refine thenA_n ?_
        refine aw_seq ?_
        refine aw_region ?_
        refine al_opd rfl rfl rfl (ao_as (v := .bool _) rfl) ?_
        refine al_nilT ?_
        refine aw_ret ?_
        refine ends1 rfl (rv_tmp (v := .bool _) rfl) ?_
        exact ⟨by rw [decide_eq_true (take_all hq (by omega) hlen)], by (repeat (first | exact Same.refl _ _ | assumption | refine Same.push ?_ (by (first | exact Nat.le_refl _ | omega | (simp only [next_push, next_set, next_kill]; omega))) _ | refine Same.set ?_ (by (first | exact Nat.le_refl _ | omega | (simp only [next_push, next_set, next_kill]; omega))) _ | refine Same.kill ?_ (by (first | exact Nat.le_refl _ | omega | (simp only [next_push, next_set, next_kill]; omega)))))⟩

-- slices.Equal[[]impl.Said,impl.Said]
theorem equalSaid_c {v u : Value} {l m : List Said} {H : AHeap} (ha : Sl H said 2 v l) (hb : Sl H said 2 u m) (hl : l.length ≤ 4194304) : ACd Try.prog 99 [v, u] H (.bool (decide (l = m))) (H) := by
  refine ac_gc0 (fun β => VR.plainT β (by first | rfl | simp [plainT, plainV, plain1])) (ac_body Try.func99 rfl Try.ntmps99 rfl ?_)
  refine aw_seq ?_
  refine aw_region ?_
  refine al_opd rfl rfl rfl (ao_as (v := .bool _) rfl) ?_
  refine al_nilT ?_
  refine aw_seq ?_
  refine aw_seq ?_
  refine aw_region ?_
  first | refine al_opd rfl rfl rfl (ao_mv (v := .slice _ _ _) rfl) ?_ | refine al_opd rfl rfl rfl (ao_mv (v := v) rfl) ?_ | refine al_opd rfl rfl rfl (ao_mv (v := u) rfl) ?_
  first | refine al_opd rfl rfl rfl (ao_lenS Try.underlying67 (by rfl)) ?_ | refine al_opd rfl rfl rfl (ao_lenN Try.underlying67 (by rfl)) ?_ | refine al_opd rfl rfl rfl (ao_lenV Try.underlying67 rfl ha) ?_ | refine al_opd rfl rfl rfl (ao_lenV Try.underlying67 rfl hb) ?_
  first | refine al_opd rfl rfl rfl (ao_mv (v := .slice _ _ _) rfl) ?_ | refine al_opd rfl rfl rfl (ao_mv (v := v) rfl) ?_ | refine al_opd rfl rfl rfl (ao_mv (v := u) rfl) ?_
  first | refine al_opd rfl rfl rfl (ao_lenS Try.underlying67 (by rfl)) ?_ | refine al_opd rfl rfl rfl (ao_lenN Try.underlying67 (by rfl)) ?_ | refine al_opd rfl rfl rfl (ao_lenV Try.underlying67 rfl ha) ?_ | refine al_opd rfl rfl rfl (ao_lenV Try.underlying67 rfl hb) ?_
  refine al_opd rfl rfl rfl (ao_neq rfl rfl) ?_
  refine al_nilT ?_
  refine aw_cond rfl (fun h1_ => ?_) (fun h1_ => ?_)
  · try simp only [decide_eq_true_eq, decide_eq_false_iff_not, Bool.not_eq_true', Bool.not_eq_false', Bool.and_eq_true, Bool.or_eq_true, Bool.and_eq_false_iff, Bool.or_eq_false_iff, beq_iff_eq, bne_iff_ne, beq_eq_false_iff_ne, bne_eq_false_iff_eq, ne_eq, Decidable.not_not, Bool.decide_eq_true] at h1_
    refine aw_seq ?_
    refine aw_region ?_
    refine al_opd rfl rfl rfl (ao_as (v := .bool _) rfl) ?_
    refine al_nilT ?_
    refine aw_ret ?_
    refine thenA_r ?_
    refine ends1 rfl (rv_tmp (v := .bool _) rfl) ?_
    exact ⟨by rw [decide_eq_false (fun e => h1_ (by rw [e]))], by (repeat (first | exact Same.refl _ _ | assumption | refine Same.push ?_ (by (first | exact Nat.le_refl _ | omega | (simp only [next_push, next_set, next_kill]; omega))) _ | refine Same.set ?_ (by (first | exact Nat.le_refl _ | omega | (simp only [next_push, next_set, next_kill]; omega))) _ | refine Same.kill ?_ (by (first | exact Nat.le_refl _ | omega | (simp only [next_push, next_set, next_kill]; omega)))))⟩
  · try simp only [decide_eq_true_eq, decide_eq_false_iff_not, Bool.not_eq_true', Bool.not_eq_false', Bool.and_eq_true, Bool.or_eq_true, Bool.and_eq_false_iff, Bool.or_eq_false_iff, beq_iff_eq, bne_iff_ne, beq_eq_false_iff_ne, bne_eq_false_iff_eq, ne_eq, Decidable.not_not, Bool.decide_eq_true] at h1_
    refine aw_skipT ?_
    refine aw_seq ?_
    refine aw_seq ?_
    refine aw_region ?_
    first | refine al_opd rfl rfl rfl (ao_mv (v := .slice _ _ _) rfl) ?_ | refine al_opd rfl rfl rfl (ao_mv (v := v) rfl) ?_ | refine al_opd rfl rfl rfl (ao_mv (v := u) rfl) ?_
    first | refine al_opd rfl rfl rfl (ao_lenS Try.underlying67 (by rfl)) ?_ | refine al_opd rfl rfl rfl (ao_lenN Try.underlying67 (by rfl)) ?_ | refine al_opd rfl rfl rfl (ao_lenV Try.underlying67 rfl ha) ?_ | refine al_opd rfl rfl rfl (ao_lenV Try.underlying67 rfl hb) ?_
    refine al_opd rfl rfl rfl (ao_mv (v := .int _ _) rfl) ?_
    refine al_nilT ?_
    refine aw_block ?_
    refine aw_loop (fun (gk : Nat) (fr : AFr) (G : AHeap) => ∃ get : Nat → Value, fr = ⟨26, get⟩ ∧ (∃ i : Nat, i ≤ l.length ∧ gk = l.length - i ∧ G = H ∧ get 0 = v ∧ get 1 = u ∧ get 12 = .int .i64 l.length ∧ get 13 = .int .i64 i ∧ l.take i = m.take i)) (l.length) ⟨_, rfl, ?_⟩ ?_
    · exact ⟨0, Nat.zero_le _, rfl, rfl, rfl, rfl, rfl, rfl, by simp⟩
    · rintro gk fr G ⟨get, rfl, i, hi, rfl, rfl, g0, g1, g12, g13, hq⟩
      have hlen : l.length = m.length := by omega
      refine aw_slot (d := 0) (v := v) (by first | assumption | rfl) ?_
      refine aw_slot (d := 1) (v := u) (by first | assumption | rfl) ?_
      refine aw_slot (d := 12) (v := .int .i64 l.length) (by first | assumption | rfl) ?_
      refine aw_slot (d := 13) (v := .int .i64 i) (by first | assumption | rfl) ?_
      refine aw_seq ?_
      refine aw_region ?_
      refine al_opd rfl rfl rfl (ao_lss rfl rfl) ?_
      refine al_nilT ?_
      refine aw_seq ?_
      refine aw_cond rfl (fun h2_ => ?_) (fun h2_ => ?_)
      · try simp only [decide_eq_true_eq, decide_eq_false_iff_not, Bool.not_eq_true', Bool.not_eq_false', Bool.and_eq_true, Bool.or_eq_true, Bool.and_eq_false_iff, Bool.or_eq_false_iff, beq_iff_eq, bne_iff_ne, beq_eq_false_iff_ne, bne_eq_false_iff_eq, ne_eq, Decidable.not_not, Bool.decide_eq_true] at h2_
        obtain ⟨x, hx⟩ := get_lt (show i < l.length by omega)
        obtain ⟨y, hy⟩ := get_lt (show i < m.length by omega)
        refine aw_skipT ?_
        refine aw_seq ?_
        refine aw_block ?_
        refine aw_seq ?_
        refine aw_region ?_
        refine al_opd rfl rfl rfl (ao_mv (v := .int _ _) rfl) ?_
        refine al_opd rfl rfl rfl (ao_as (v := .int _ _) rfl) ?_
        refine al_nilT ?_
        refine aw_seq ?_
        refine aw_draw (m := 9) mo (by kernel_rfl) rfl ?_
        first | refine dw_opd rfl rfl rfl (ao_mv (v := .slice _ _ _) rfl) ?_ | refine dw_opd rfl rfl rfl (ao_mv (v := v) rfl) ?_ | refine dw_opd rfl rfl rfl (ao_mv (v := u) rfl) ?_
        refine dw_opd rfl rfl rfl (ao_mv (v := .int _ _) rfl) ?_
        first | refine dw_opd rfl rfl rfl (ao_indexAddrS Try.underlying67 Try.sizeOf101 rfl rfl (by first | omega | decide | (simp; omega)) (by first | omega | decide | (simp; omega))) ?_ | refine dw_opd rfl rfl rfl (ao_indexV Try.underlying67 Try.sizeOf101 rfl rfl ha (by first | omega | decide | (simp; omega)) (by first | omega | decide | (simp; omega))) ?_ | refine dw_opd rfl rfl rfl (ao_indexV Try.underlying67 Try.sizeOf101 rfl rfl hb (by first | omega | decide | (simp; omega)) (by first | omega | decide | (simp; omega))) ?_
        first | refine dw_opd rfl rfl rfl (ao_loada Try.isAgg101 Try.sizeOf101 rfl (by ((repeat (first | exact blk_push_new _ _ | assumption | apply blk_push_old | apply blk_set_same | refine (blk_set_ne (by first | assumption | omega | (simp only [next_push, next_set, next_kill, ne_eq]; omega))).trans ?_ | refine (blk_kill_ne (by first | assumption | omega | (simp only [next_push, next_set, next_kill, ne_eq]; omega))).trans ?_)); (first | done | fail))) (by rfl) (by first | rfl | (simp; (first | done | fail)))) ?_ | refine dw_opd rfl rfl rfl (ao_loadsV (A := #[.int _ _, .int _ _]) Try.isAgg101 Try.sizeOf101 ha rfl (by assumption) rfl (by decide)) ?_ | refine dw_opd rfl rfl rfl (ao_loadsV (A := #[.int _ _, .int _ _]) Try.isAgg101 Try.sizeOf101 hb rfl (by assumption) rfl (by decide)) ?_
        first | refine dw_opd rfl rfl rfl (ao_mv (v := .slice _ _ _) rfl) ?_ | refine dw_opd rfl rfl rfl (ao_mv (v := v) rfl) ?_ | refine dw_opd rfl rfl rfl (ao_mv (v := u) rfl) ?_
        refine dw_opd rfl rfl rfl (ao_mv (v := .int _ _) rfl) ?_
        first | refine dw_opd rfl rfl rfl (ao_indexAddrS Try.underlying67 Try.sizeOf101 rfl rfl (by first | omega | decide | (simp; omega)) (by first | omega | decide | (simp; omega))) ?_ | refine dw_opd rfl rfl rfl (ao_indexV Try.underlying67 Try.sizeOf101 rfl rfl ha (by first | omega | decide | (simp; omega)) (by first | omega | decide | (simp; omega))) ?_ | refine dw_opd rfl rfl rfl (ao_indexV Try.underlying67 Try.sizeOf101 rfl rfl hb (by first | omega | decide | (simp; omega)) (by first | omega | decide | (simp; omega))) ?_
        first | refine dw_opd rfl rfl rfl (ao_loada Try.isAgg101 Try.sizeOf101 rfl (by ((repeat (first | exact blk_push_new _ _ | assumption | apply blk_push_old | apply blk_set_same | refine (blk_set_ne (by first | assumption | omega | (simp only [next_push, next_set, next_kill, ne_eq]; omega))).trans ?_ | refine (blk_kill_ne (by first | assumption | omega | (simp only [next_push, next_set, next_kill, ne_eq]; omega))).trans ?_)); (first | done | fail))) (by rfl) (by first | rfl | (simp; (first | done | fail)))) ?_ | refine dw_opd rfl rfl rfl (ao_loadsV (A := #[.int _ _, .int _ _]) Try.isAgg101 Try.sizeOf101 ha rfl (by assumption) rfl (by decide)) ?_ | refine dw_opd rfl rfl rfl (ao_loadsV (A := #[.int _ _, .int _ _]) Try.isAgg101 Try.sizeOf101 hb rfl (by assumption) rfl (by decide)) ?_
        refine dw_opd rfl rfl rfl (ao_neV Try.eqGuardType101 rfl rfl rfl rfl (eqS101 _ _ _ _)) ?_
        refine dw_end ?_
        refine al_nilT ?_
        refine aw_cond rfl (fun h3_ => ?_) (fun h3_ => ?_)
        · try simp only [decide_eq_true_eq, decide_eq_false_iff_not, Bool.not_eq_true', Bool.not_eq_false', Bool.and_eq_true, Bool.or_eq_true, Bool.and_eq_false_iff, Bool.or_eq_false_iff, beq_iff_eq, bne_iff_ne, beq_eq_false_iff_ne, bne_eq_false_iff_eq, ne_eq, Decidable.not_not, Bool.decide_eq_true] at h3_
          refine aw_seq ?_
          refine aw_region ?_
          refine al_opd rfl rfl rfl (ao_as (v := .bool _) rfl) ?_
          refine al_nilT ?_
          refine aw_ret ?_
          refine blockA_r ?_
          refine thenA_r ?_
          refine thenA_r ?_
          refine blockA_r ?_
          refine thenA_r ?_
          refine ends1 rfl (rv_tmp (v := .bool _) rfl) ?_
          exact ⟨by rw [decide_eq_false (ne_at hx hy (fun e => by subst e; simp at h3_))], by (repeat (first | exact Same.refl _ _ | assumption | refine Same.push ?_ (by (first | exact Nat.le_refl _ | omega | (simp only [next_push, next_set, next_kill]; omega))) _ | refine Same.set ?_ (by (first | exact Nat.le_refl _ | omega | (simp only [next_push, next_set, next_kill]; omega))) _ | refine Same.kill ?_ (by (first | exact Nat.le_refl _ | omega | (simp only [next_push, next_set, next_kill]; omega)))))⟩
        · try simp only [decide_eq_true_eq, decide_eq_false_iff_not, Bool.not_eq_true', Bool.not_eq_false', Bool.and_eq_true, Bool.or_eq_true, Bool.and_eq_false_iff, Bool.or_eq_false_iff, beq_iff_eq, bne_iff_ne, beq_eq_false_iff_ne, bne_eq_false_iff_eq, ne_eq, Decidable.not_not, Bool.decide_eq_true] at h3_
          refine aw_skipB ?_
          refine thenA_n ?_
          refine aw_region ?_
          first | refine al_opd rfl rfl rfl ((ao_add rfl rfl).val (nw_i64 (by first | omega | decide) (by first | omega | decide))) ?_ | refine al_opd rfl rfl rfl (ao_add rfl rfl) ?_
          refine al_opd rfl rfl rfl (ao_mv (v := .int _ _) rfl) ?_
          refine al_nilT ?_
          exact ⟨_, by omega, _, rfl, i + 1, by omega, rfl, rfl, rfl, rfl, rfl, by rfl, take_step hq hx (by rw [hy]; exact congrArg some (said_ext h3_.1 h3_.2).symm)⟩
      · try simp only [decide_eq_true_eq, decide_eq_false_iff_not, Bool.not_eq_true', Bool.not_eq_false', Bool.and_eq_true, Bool.or_eq_true, Bool.and_eq_false_iff, Bool.or_eq_false_iff, beq_iff_eq, bne_iff_ne, beq_eq_false_iff_ne, bne_eq_false_iff_eq, ne_eq, Decidable.not_not, Bool.decide_eq_true] at h2_
        refine aw_exit ?_
        refine thenA_x ?_
        refine thenA_x ?_
        refine blockA_hit ?_
        refine thenA_n ?_
        refine aw_seq ?_
        refine aw_region ?_
        refine al_opd rfl rfl rfl (ao_as (v := .bool _) rfl) ?_
        refine al_nilT ?_
        refine aw_ret ?_
        refine ends1 rfl (rv_tmp (v := .bool _) rfl) ?_
        exact ⟨by rw [decide_eq_true (take_all hq (by omega) hlen)], by (repeat (first | exact Same.refl _ _ | assumption | refine Same.push ?_ (by (first | exact Nat.le_refl _ | omega | (simp only [next_push, next_set, next_kill]; omega))) _ | refine Same.set ?_ (by (first | exact Nat.le_refl _ | omega | (simp only [next_push, next_set, next_kill]; omega))) _ | refine Same.kill ?_ (by (first | exact Nat.le_refl _ | omega | (simp only [next_push, next_set, next_kill]; omega)))))⟩

-- laws.toHoldS
theorem toHoldS_c {v : Value} {l : List Hold} {H : AHeap} (ha : Sl H hold 2 v l) (hl : l.length ≤ 4194304) : ACd Try.prog 23 [v] H ((.slice (some ⟨H.next, 0, none⟩) l.length l.length)) (H.push (.cells (fl hold l) 2)) := by
  refine ac_gcs (vrl_fl hold_plain l) (ac_body Try.func23 rfl Try.ntmps23 rfl ?_)
  refine aw_seq ?_
  refine aw_region ?_
  first | refine al_opd rfl rfl rfl (ao_as (v := .slice _ _ _) rfl) ?_ | refine al_opd rfl rfl rfl (ao_as (v := v) rfl) ?_
  refine al_nilT ?_
  refine aw_seq ?_
  refine aw_region ?_
  first | refine al_opd rfl rfl rfl (ao_mv (v := .slice _ _ _) rfl) ?_ | refine al_opd rfl rfl rfl (ao_mv (v := v) rfl) ?_
  first | refine al_opd rfl rfl rfl (ao_lenS Try.underlying25 (by rfl)) ?_ | refine al_opd rfl rfl rfl (ao_lenN Try.underlying25 (by rfl)) ?_ | refine al_opd rfl rfl rfl (ao_lenV Try.underlying25 rfl ha) ?_ | refine al_opd rfl rfl rfl (ao_lenV Try.underlying25 rfl hb) ?_
  refine al_opd rfl rfl rfl (ao_makeF (hold) (⟨0, 0⟩) Try.underlying28 elz81 (by rfl) (by decide) rfl rfl (by first | rfl | omega) (by first | omega | decide | (simp; omega)) (by first | omega | decide | (simp; omega))) ?_
  first | refine al_opd rfl rfl rfl (ao_as (v := .slice _ _ _) rfl) ?_ | refine al_opd rfl rfl rfl (ao_as (v := v) rfl) ?_
  refine al_nilT ?_
  refine aw_seq ?_
  refine aw_seq ?_
  refine aw_region ?_
  refine al_opd rfl rfl rfl (ao_as (v := .int _ _) rfl) ?_
  refine al_nilT ?_
  refine aw_block ?_
  have hb : Sl (H.push (.cells (fl hold (List.replicate l.length ⟨0, 0⟩)) 2)) hold 2 v l := ha.mono (by (repeat (first | exact Same.refl _ _ | assumption | refine Same.push ?_ (by (first | exact Nat.le_refl _ | omega | (simp only [next_push, next_set, next_kill]; omega))) _ | refine Same.set ?_ (by (first | exact Nat.le_refl _ | omega | (simp only [next_push, next_set, next_kill]; omega))) _ | refine Same.kill ?_ (by (first | exact Nat.le_refl _ | omega | (simp only [next_push, next_set, next_kill]; omega))))))
  refine aw_loop (fun (gk : Nat) (fr : AFr) (G : AHeap) => ∃ get : Nat → Value, fr = ⟨23, get⟩ ∧ (∃ (i : Nat) (z : List Hold), i ≤ l.length ∧ gk = l.length - i ∧ z.length = l.length ∧ z.take i = l.take i ∧ G = H.push (.cells (fl hold z) 2) ∧ get 0 = v ∧ get 3 = (.slice (some ⟨H.next, 0, none⟩) l.length l.length) ∧ get 4 = .int .i64 i)) (l.length) ⟨_, rfl, ?_⟩ ?_
  · exact ⟨0, _, Nat.zero_le _, rfl, by simp, by simp, rfl, rfl, rfl, rfl⟩
  · rintro gk fr G ⟨get, rfl, i, z, hi, rfl, hz, hq, rfl, g0, g3, g4⟩
    have hb : Sl (H.push (.cells (fl hold z) 2)) hold 2 v l := ha.mono (by (repeat (first | exact Same.refl _ _ | assumption | refine Same.push ?_ (by (first | exact Nat.le_refl _ | omega | (simp only [next_push, next_set, next_kill]; omega))) _ | refine Same.set ?_ (by (first | exact Nat.le_refl _ | omega | (simp only [next_push, next_set, next_kill]; omega))) _ | refine Same.kill ?_ (by (first | exact Nat.le_refl _ | omega | (simp only [next_push, next_set, next_kill]; omega))))))
    refine aw_slot (d := 0) (v := v) (by first | assumption | rfl) ?_
    refine aw_slot (d := 3) (v := (.slice (some ⟨H.next, 0, none⟩) l.length l.length)) (by first | assumption | rfl) ?_
    refine aw_slot (d := 4) (v := .int .i64 i) (by first | assumption | rfl) ?_
    refine aw_seq ?_
    refine aw_seq ?_
    refine aw_region ?_
    refine al_opd rfl rfl rfl (ao_mv (v := .int _ _) rfl) ?_
    first | refine al_opd rfl rfl rfl (ao_mv (v := .slice _ _ _) rfl) ?_ | refine al_opd rfl rfl rfl (ao_mv (v := v) rfl) ?_
    first | refine al_opd rfl rfl rfl (ao_lenS Try.underlying25 (by rfl)) ?_ | refine al_opd rfl rfl rfl (ao_lenN Try.underlying25 (by rfl)) ?_ | refine al_opd rfl rfl rfl (ao_lenV Try.underlying25 rfl ha) ?_ | refine al_opd rfl rfl rfl (ao_lenV Try.underlying25 rfl hb) ?_
    refine al_opd rfl rfl rfl (ao_lss rfl rfl) ?_
    refine al_nilT ?_
    refine aw_cond rfl (fun h1_ => ?_) (fun h1_ => ?_)
    · try simp only [decide_eq_true_eq, decide_eq_false_iff_not, Bool.not_eq_true', Bool.not_eq_false', Bool.and_eq_true, Bool.or_eq_true, Bool.and_eq_false_iff, Bool.or_eq_false_iff, beq_iff_eq, bne_iff_ne, beq_eq_false_iff_ne, bne_eq_false_iff_eq, ne_eq, Decidable.not_not, Bool.decide_eq_true] at h1_
      obtain ⟨x, hx⟩ := get_lt (show i < l.length by omega)
      refine aw_skipT ?_
      refine aw_seq ?_
      refine aw_block ?_
      refine aw_region ?_
      first | refine al_opd rfl rfl rfl (ao_mv (v := .slice _ _ _) rfl) ?_ | refine al_opd rfl rfl rfl (ao_mv (v := v) rfl) ?_
      refine al_opd rfl rfl rfl (ao_mv (v := .int _ _) rfl) ?_
      first | refine al_opd rfl rfl rfl (ao_mv (v := .slice _ _ _) rfl) ?_ | refine al_opd rfl rfl rfl (ao_mv (v := v) rfl) ?_
      refine al_opd rfl rfl rfl (ao_mv (v := .int _ _) rfl) ?_
      first | refine al_opd rfl rfl rfl (ao_indexAddrS Try.underlying25 Try.sizeOf83 rfl rfl (by first | omega | decide | (simp; omega)) (by first | omega | decide | (simp; omega))) ?_ | refine al_opd rfl rfl rfl (ao_indexV Try.underlying25 Try.sizeOf83 rfl rfl ha (by first | omega | decide | (simp; omega)) (by first | omega | decide | (simp; omega))) ?_ | refine al_opd rfl rfl rfl (ao_indexV Try.underlying25 Try.sizeOf83 rfl rfl hb (by first | omega | decide | (simp; omega)) (by first | omega | decide | (simp; omega))) ?_
      first | refine al_opd rfl rfl rfl (ao_loada Try.isAgg83 Try.sizeOf83 rfl (by ((repeat (first | exact blk_push_new _ _ | assumption | apply blk_push_old | apply blk_set_same | refine (blk_set_ne (by first | assumption | omega | (simp only [next_push, next_set, next_kill, ne_eq]; omega))).trans ?_ | refine (blk_kill_ne (by first | assumption | omega | (simp only [next_push, next_set, next_kill, ne_eq]; omega))).trans ?_)); (first | done | fail))) (by rfl) (by first | rfl | (simp; (first | done | fail)))) ?_ | refine al_opd rfl rfl rfl (ao_loadsV (A := #[.int _ _, .int _ _]) Try.isAgg83 Try.sizeOf83 ha rfl (by assumption) rfl (by decide)) ?_ | refine al_opd rfl rfl rfl (ao_loadsV (A := #[.int _ _, .int _ _]) Try.isAgg83 Try.sizeOf83 hb rfl (by assumption) rfl (by decide)) ?_
      refine al_opd rfl rfl rfl (ao_calld (toHold1_c (x := x)) Try.call70 rfl rfl) ?_
      first | refine al_opd rfl rfl rfl (ao_indexAddrS Try.underlying28 Try.sizeOf81 rfl rfl (by first | omega | decide | (simp; omega)) (by first | omega | decide | (simp; omega))) ?_ | refine al_opd rfl rfl rfl (ao_indexV Try.underlying28 Try.sizeOf81 rfl rfl ha (by first | omega | decide | (simp; omega)) (by first | omega | decide | (simp; omega))) ?_ | refine al_opd rfl rfl rfl (ao_indexV Try.underlying28 Try.sizeOf81 rfl rfl hb (by first | omega | decide | (simp; omega)) (by first | omega | decide | (simp; omega))) ?_
      first | refine al_opd rfl rfl rfl ((ao_storeL Try.sizeOf81 (by rfl) (by rfl) (by ((repeat (first | exact blk_push_new _ _ | assumption | apply blk_push_old | apply blk_set_same | refine (blk_set_ne (by first | assumption | omega | (simp only [next_push, next_set, next_kill, ne_eq]; omega))).trans ?_ | refine (blk_kill_ne (by first | assumption | omega | (simp only [next_push, next_set, next_kill, ne_eq]; omega))).trans ?_)); (first | done | fail))) (by first | rfl | (simp; (first | done | fail))) (by first | rfl | (simp; (first | done | fail))) (by first | rfl | (simp; (first | done | fail)))).to (SetR.eq (by (repeat (first | exact SetR.new | exact SetR.same | (apply SetR.old; · exact ⟨_, by ((repeat (first | exact blk_push_new _ _ | assumption | apply blk_push_old | apply blk_set_same | refine (blk_set_ne (by first | assumption | omega | (simp only [next_push, next_set, next_kill, ne_eq]; omega))).trans ?_ | refine (blk_kill_ne (by first | assumption | omega | (simp only [next_push, next_set, next_kill, ne_eq]; omega))).trans ?_)); (first | done | fail))⟩) | exact SetR.base))))) ?_ | refine al_opd rfl rfl rfl ((ao_storeP (ds := [.int _ _, .int _ _]) Try.sizeOf81 (by rfl) (by rfl) (by ((repeat (first | exact blk_push_new _ _ | assumption | apply blk_push_old | apply blk_set_same | refine (blk_set_ne (by first | assumption | omega | (simp only [next_push, next_set, next_kill, ne_eq]; omega))).trans ?_ | refine (blk_kill_ne (by first | assumption | omega | (simp only [next_push, next_set, next_kill, ne_eq]; omega))).trans ?_)); (first | done | fail))) (by first | rfl | (simp; (first | done | fail))) (by first | rfl | (simp; (first | done | fail))) (by (rw [fl_len hold_len, hz]; simp; omega))).to (SetR.eq (by (repeat (first | exact SetR.new | exact SetR.same | (apply SetR.old; · exact ⟨_, by ((repeat (first | exact blk_push_new _ _ | assumption | apply blk_push_old | apply blk_set_same | refine (blk_set_ne (by first | assumption | omega | (simp only [next_push, next_set, next_kill, ne_eq]; omega))).trans ?_ | refine (blk_kill_ne (by first | assumption | omega | (simp only [next_push, next_set, next_kill, ne_eq]; omega))).trans ?_)); (first | done | fail))⟩) | exact SetR.base))))) ?_
      refine al_nilB ?_
      refine thenA_n ?_
      refine aw_region ?_
      refine al_opd rfl rfl rfl (ao_mv (v := .int _ _) rfl) ?_
      first | refine al_opd rfl rfl rfl ((ao_add rfl rfl).val (nw_i64 (by first | omega | decide) (by first | omega | decide))) ?_ | refine al_opd rfl rfl rfl (ao_add rfl rfl) ?_
      refine al_opd rfl rfl rfl (ao_as (v := .int _ _) rfl) ?_
      refine al_nilT ?_
      exact ⟨_, by omega, _, rfl, i + 1, z.set i x, by omega, rfl, by simp [hz], take_setz hq hx (by omega), congrArg (fun c => H.push (.cells c 2)) (fl_setzL (y := x) hold_len (by omega)), rfl, rfl, by rfl⟩
    · try simp only [decide_eq_true_eq, decide_eq_false_iff_not, Bool.not_eq_true', Bool.not_eq_false', Bool.and_eq_true, Bool.or_eq_true, Bool.and_eq_false_iff, Bool.or_eq_false_iff, beq_iff_eq, bne_iff_ne, beq_eq_false_iff_ne, bne_eq_false_iff_eq, ne_eq, Decidable.not_not, Bool.decide_eq_true] at h1_
      refine aw_exit ?_
      refine thenA_x ?_
      refine thenA_x ?_
      refine blockA_hit ?_
      refine thenA_n ?_
      refine aw_seq ?_
      refine aw_region ?_
      first | refine al_opd rfl rfl rfl (ao_mv (v := .slice _ _ _) rfl) ?_ | refine al_opd rfl rfl rfl (ao_mv (v := v) rfl) ?_
      first | refine al_opd rfl rfl rfl (ao_as (v := .slice _ _ _) rfl) ?_ | refine al_opd rfl rfl rfl (ao_as (v := v) rfl) ?_
      refine al_nilT ?_
      refine aw_ret ?_
      refine ends1 rfl (rv_tmp (v := .slice _ _ _) rfl) ?_
      exact ⟨by (repeat (first | exact Same.refl _ _ | assumption | refine Same.push ?_ (by (first | exact Nat.le_refl _ | omega | (simp only [next_push, next_set, next_kill]; omega))) _ | refine Same.set ?_ (by (first | exact Nat.le_refl _ | omega | (simp only [next_push, next_set, next_kill]; omega))) _ | refine Same.kill ?_ (by (first | exact Nat.le_refl _ | omega | (simp only [next_push, next_set, next_kill]; omega))))), H.next, Nat.le_refl _, by rw [take_all hq (by omega) hz]; exact blk_push_new _ _, fun ρ h => vr_sl h (Nat.le_refl _) (fun _ => rfl)⟩

-- laws.toSaidS
theorem toSaidS_c {v : Value} {l : List Said} {H : AHeap} (ha : Sl H said 2 v l) (hl : l.length ≤ 4194304) : ACd Try.prog 58 [v] H ((.slice (some ⟨H.next, 0, none⟩) l.length l.length)) (H.push (.cells (fl said l) 2)) := by
  refine ac_gcs (vrl_fl said_plain l) (ac_body Try.func58 rfl Try.ntmps58 rfl ?_)
  refine aw_seq ?_
  refine aw_region ?_
  first | refine al_opd rfl rfl rfl (ao_as (v := .slice _ _ _) rfl) ?_ | refine al_opd rfl rfl rfl (ao_as (v := v) rfl) ?_
  refine al_nilT ?_
  refine aw_seq ?_
  refine aw_region ?_
  first | refine al_opd rfl rfl rfl (ao_mv (v := .slice _ _ _) rfl) ?_ | refine al_opd rfl rfl rfl (ao_mv (v := v) rfl) ?_
  first | refine al_opd rfl rfl rfl (ao_lenS Try.underlying64 (by rfl)) ?_ | refine al_opd rfl rfl rfl (ao_lenN Try.underlying64 (by rfl)) ?_ | refine al_opd rfl rfl rfl (ao_lenV Try.underlying64 rfl ha) ?_ | refine al_opd rfl rfl rfl (ao_lenV Try.underlying64 rfl hb) ?_
  refine al_opd rfl rfl rfl (ao_makeF (said) (⟨0, 0⟩) Try.underlying67 elz101 (by rfl) (by decide) rfl rfl (by first | rfl | omega) (by first | omega | decide | (simp; omega)) (by first | omega | decide | (simp; omega))) ?_
  first | refine al_opd rfl rfl rfl (ao_as (v := .slice _ _ _) rfl) ?_ | refine al_opd rfl rfl rfl (ao_as (v := v) rfl) ?_
  refine al_nilT ?_
  refine aw_seq ?_
  refine aw_seq ?_
  refine aw_region ?_
  refine al_opd rfl rfl rfl (ao_as (v := .int _ _) rfl) ?_
  refine al_nilT ?_
  refine aw_block ?_
  have hb : Sl (H.push (.cells (fl said (List.replicate l.length ⟨0, 0⟩)) 2)) said 2 v l := ha.mono (by (repeat (first | exact Same.refl _ _ | assumption | refine Same.push ?_ (by (first | exact Nat.le_refl _ | omega | (simp only [next_push, next_set, next_kill]; omega))) _ | refine Same.set ?_ (by (first | exact Nat.le_refl _ | omega | (simp only [next_push, next_set, next_kill]; omega))) _ | refine Same.kill ?_ (by (first | exact Nat.le_refl _ | omega | (simp only [next_push, next_set, next_kill]; omega))))))
  refine aw_loop (fun (gk : Nat) (fr : AFr) (G : AHeap) => ∃ get : Nat → Value, fr = ⟨23, get⟩ ∧ (∃ (i : Nat) (z : List Said), i ≤ l.length ∧ gk = l.length - i ∧ z.length = l.length ∧ z.take i = l.take i ∧ G = H.push (.cells (fl said z) 2) ∧ get 0 = v ∧ get 3 = (.slice (some ⟨H.next, 0, none⟩) l.length l.length) ∧ get 4 = .int .i64 i)) (l.length) ⟨_, rfl, ?_⟩ ?_
  · exact ⟨0, _, Nat.zero_le _, rfl, by simp, by simp, rfl, rfl, rfl, rfl⟩
  · rintro gk fr G ⟨get, rfl, i, z, hi, rfl, hz, hq, rfl, g0, g3, g4⟩
    have hb : Sl (H.push (.cells (fl said z) 2)) said 2 v l := ha.mono (by (repeat (first | exact Same.refl _ _ | assumption | refine Same.push ?_ (by (first | exact Nat.le_refl _ | omega | (simp only [next_push, next_set, next_kill]; omega))) _ | refine Same.set ?_ (by (first | exact Nat.le_refl _ | omega | (simp only [next_push, next_set, next_kill]; omega))) _ | refine Same.kill ?_ (by (first | exact Nat.le_refl _ | omega | (simp only [next_push, next_set, next_kill]; omega))))))
    refine aw_slot (d := 0) (v := v) (by first | assumption | rfl) ?_
    refine aw_slot (d := 3) (v := (.slice (some ⟨H.next, 0, none⟩) l.length l.length)) (by first | assumption | rfl) ?_
    refine aw_slot (d := 4) (v := .int .i64 i) (by first | assumption | rfl) ?_
    refine aw_seq ?_
    refine aw_seq ?_
    refine aw_region ?_
    refine al_opd rfl rfl rfl (ao_mv (v := .int _ _) rfl) ?_
    first | refine al_opd rfl rfl rfl (ao_mv (v := .slice _ _ _) rfl) ?_ | refine al_opd rfl rfl rfl (ao_mv (v := v) rfl) ?_
    first | refine al_opd rfl rfl rfl (ao_lenS Try.underlying64 (by rfl)) ?_ | refine al_opd rfl rfl rfl (ao_lenN Try.underlying64 (by rfl)) ?_ | refine al_opd rfl rfl rfl (ao_lenV Try.underlying64 rfl ha) ?_ | refine al_opd rfl rfl rfl (ao_lenV Try.underlying64 rfl hb) ?_
    refine al_opd rfl rfl rfl (ao_lss rfl rfl) ?_
    refine al_nilT ?_
    refine aw_cond rfl (fun h1_ => ?_) (fun h1_ => ?_)
    · try simp only [decide_eq_true_eq, decide_eq_false_iff_not, Bool.not_eq_true', Bool.not_eq_false', Bool.and_eq_true, Bool.or_eq_true, Bool.and_eq_false_iff, Bool.or_eq_false_iff, beq_iff_eq, bne_iff_ne, beq_eq_false_iff_ne, bne_eq_false_iff_eq, ne_eq, Decidable.not_not, Bool.decide_eq_true] at h1_
      obtain ⟨x, hx⟩ := get_lt (show i < l.length by omega)
      refine aw_skipT ?_
      refine aw_seq ?_
      refine aw_block ?_
      refine aw_region ?_
      first | refine al_opd rfl rfl rfl (ao_mv (v := .slice _ _ _) rfl) ?_ | refine al_opd rfl rfl rfl (ao_mv (v := v) rfl) ?_
      refine al_opd rfl rfl rfl (ao_mv (v := .int _ _) rfl) ?_
      first | refine al_opd rfl rfl rfl (ao_mv (v := .slice _ _ _) rfl) ?_ | refine al_opd rfl rfl rfl (ao_mv (v := v) rfl) ?_
      refine al_opd rfl rfl rfl (ao_mv (v := .int _ _) rfl) ?_
      first | refine al_opd rfl rfl rfl (ao_indexAddrS Try.underlying64 Try.sizeOf104 rfl rfl (by first | omega | decide | (simp; omega)) (by first | omega | decide | (simp; omega))) ?_ | refine al_opd rfl rfl rfl (ao_indexV Try.underlying64 Try.sizeOf104 rfl rfl ha (by first | omega | decide | (simp; omega)) (by first | omega | decide | (simp; omega))) ?_ | refine al_opd rfl rfl rfl (ao_indexV Try.underlying64 Try.sizeOf104 rfl rfl hb (by first | omega | decide | (simp; omega)) (by first | omega | decide | (simp; omega))) ?_
      first | refine al_opd rfl rfl rfl (ao_loada Try.isAgg104 Try.sizeOf104 rfl (by ((repeat (first | exact blk_push_new _ _ | assumption | apply blk_push_old | apply blk_set_same | refine (blk_set_ne (by first | assumption | omega | (simp only [next_push, next_set, next_kill, ne_eq]; omega))).trans ?_ | refine (blk_kill_ne (by first | assumption | omega | (simp only [next_push, next_set, next_kill, ne_eq]; omega))).trans ?_)); (first | done | fail))) (by rfl) (by first | rfl | (simp; (first | done | fail)))) ?_ | refine al_opd rfl rfl rfl (ao_loadsV (A := #[.int _ _, .int _ _]) Try.isAgg104 Try.sizeOf104 ha rfl (by assumption) rfl (by decide)) ?_ | refine al_opd rfl rfl rfl (ao_loadsV (A := #[.int _ _, .int _ _]) Try.isAgg104 Try.sizeOf104 hb rfl (by assumption) rfl (by decide)) ?_
      refine al_opd rfl rfl rfl (ao_calld (toSaid1_c (x := x)) Try.call93 rfl rfl) ?_
      first | refine al_opd rfl rfl rfl (ao_indexAddrS Try.underlying67 Try.sizeOf101 rfl rfl (by first | omega | decide | (simp; omega)) (by first | omega | decide | (simp; omega))) ?_ | refine al_opd rfl rfl rfl (ao_indexV Try.underlying67 Try.sizeOf101 rfl rfl ha (by first | omega | decide | (simp; omega)) (by first | omega | decide | (simp; omega))) ?_ | refine al_opd rfl rfl rfl (ao_indexV Try.underlying67 Try.sizeOf101 rfl rfl hb (by first | omega | decide | (simp; omega)) (by first | omega | decide | (simp; omega))) ?_
      first | refine al_opd rfl rfl rfl ((ao_storeL Try.sizeOf101 (by rfl) (by rfl) (by ((repeat (first | exact blk_push_new _ _ | assumption | apply blk_push_old | apply blk_set_same | refine (blk_set_ne (by first | assumption | omega | (simp only [next_push, next_set, next_kill, ne_eq]; omega))).trans ?_ | refine (blk_kill_ne (by first | assumption | omega | (simp only [next_push, next_set, next_kill, ne_eq]; omega))).trans ?_)); (first | done | fail))) (by first | rfl | (simp; (first | done | fail))) (by first | rfl | (simp; (first | done | fail))) (by first | rfl | (simp; (first | done | fail)))).to (SetR.eq (by (repeat (first | exact SetR.new | exact SetR.same | (apply SetR.old; · exact ⟨_, by ((repeat (first | exact blk_push_new _ _ | assumption | apply blk_push_old | apply blk_set_same | refine (blk_set_ne (by first | assumption | omega | (simp only [next_push, next_set, next_kill, ne_eq]; omega))).trans ?_ | refine (blk_kill_ne (by first | assumption | omega | (simp only [next_push, next_set, next_kill, ne_eq]; omega))).trans ?_)); (first | done | fail))⟩) | exact SetR.base))))) ?_ | refine al_opd rfl rfl rfl ((ao_storeP (ds := [.int _ _, .int _ _]) Try.sizeOf101 (by rfl) (by rfl) (by ((repeat (first | exact blk_push_new _ _ | assumption | apply blk_push_old | apply blk_set_same | refine (blk_set_ne (by first | assumption | omega | (simp only [next_push, next_set, next_kill, ne_eq]; omega))).trans ?_ | refine (blk_kill_ne (by first | assumption | omega | (simp only [next_push, next_set, next_kill, ne_eq]; omega))).trans ?_)); (first | done | fail))) (by first | rfl | (simp; (first | done | fail))) (by first | rfl | (simp; (first | done | fail))) (by (rw [fl_len said_len, hz]; simp; omega))).to (SetR.eq (by (repeat (first | exact SetR.new | exact SetR.same | (apply SetR.old; · exact ⟨_, by ((repeat (first | exact blk_push_new _ _ | assumption | apply blk_push_old | apply blk_set_same | refine (blk_set_ne (by first | assumption | omega | (simp only [next_push, next_set, next_kill, ne_eq]; omega))).trans ?_ | refine (blk_kill_ne (by first | assumption | omega | (simp only [next_push, next_set, next_kill, ne_eq]; omega))).trans ?_)); (first | done | fail))⟩) | exact SetR.base))))) ?_
      refine al_nilB ?_
      refine thenA_n ?_
      refine aw_region ?_
      refine al_opd rfl rfl rfl (ao_mv (v := .int _ _) rfl) ?_
      first | refine al_opd rfl rfl rfl ((ao_add rfl rfl).val (nw_i64 (by first | omega | decide) (by first | omega | decide))) ?_ | refine al_opd rfl rfl rfl (ao_add rfl rfl) ?_
      refine al_opd rfl rfl rfl (ao_as (v := .int _ _) rfl) ?_
      refine al_nilT ?_
      exact ⟨_, by omega, _, rfl, i + 1, z.set i x, by omega, rfl, by simp [hz], take_setz hq hx (by omega), congrArg (fun c => H.push (.cells c 2)) (fl_setzL (y := x) said_len (by omega)), rfl, rfl, by rfl⟩
    · try simp only [decide_eq_true_eq, decide_eq_false_iff_not, Bool.not_eq_true', Bool.not_eq_false', Bool.and_eq_true, Bool.or_eq_true, Bool.and_eq_false_iff, Bool.or_eq_false_iff, beq_iff_eq, bne_iff_ne, beq_eq_false_iff_ne, bne_eq_false_iff_eq, ne_eq, Decidable.not_not, Bool.decide_eq_true] at h1_
      refine aw_exit ?_
      refine thenA_x ?_
      refine thenA_x ?_
      refine blockA_hit ?_
      refine thenA_n ?_
      refine aw_seq ?_
      refine aw_region ?_
      first | refine al_opd rfl rfl rfl (ao_mv (v := .slice _ _ _) rfl) ?_ | refine al_opd rfl rfl rfl (ao_mv (v := v) rfl) ?_
      first | refine al_opd rfl rfl rfl (ao_as (v := .slice _ _ _) rfl) ?_ | refine al_opd rfl rfl rfl (ao_as (v := v) rfl) ?_
      refine al_nilT ?_
      refine aw_ret ?_
      refine ends1 rfl (rv_tmp (v := .slice _ _ _) rfl) ?_
      exact ⟨by (repeat (first | exact Same.refl _ _ | assumption | refine Same.push ?_ (by (first | exact Nat.le_refl _ | omega | (simp only [next_push, next_set, next_kill]; omega))) _ | refine Same.set ?_ (by (first | exact Nat.le_refl _ | omega | (simp only [next_push, next_set, next_kill]; omega))) _ | refine Same.kill ?_ (by (first | exact Nat.le_refl _ | omega | (simp only [next_push, next_set, next_kill]; omega))))), H.next, Nat.le_refl _, by rw [take_all hq (by omega) hz]; exact blk_push_new _ _, fun ρ h => vr_sl h (Nat.le_refl _) (fun _ => rfl)⟩

-- spec.SameHolds
theorem specSameHolds_c {v u : Value} {l m : List Hold} {H : AHeap} (ha : Sl H hold 2 v l) (hb : Sl H hold 2 u m) (hl : l.length ≤ 4194304) : ACd Try.prog 22 [v, u] H (.bool (decide (l = m))) (H) := by
  refine ac_gc0 (fun β => VR.plainT β (by first | rfl | simp [plainT, plainV, plain1])) (ac_body Try.func22 rfl Try.ntmps22 rfl ?_)
  refine aw_seq ?_
  refine aw_region ?_
  refine al_opd rfl rfl rfl (ao_as (v := .bool _) rfl) ?_
  refine al_nilT ?_
  refine aw_seq ?_
  refine aw_seq ?_
  refine aw_region ?_
  first | refine al_opd rfl rfl rfl (ao_mv (v := .slice _ _ _) rfl) ?_ | refine al_opd rfl rfl rfl (ao_mv (v := v) rfl) ?_ | refine al_opd rfl rfl rfl (ao_mv (v := u) rfl) ?_
  first | refine al_opd rfl rfl rfl (ao_lenS Try.underlying28 (by rfl)) ?_ | refine al_opd rfl rfl rfl (ao_lenN Try.underlying28 (by rfl)) ?_ | refine al_opd rfl rfl rfl (ao_lenV Try.underlying28 rfl ha) ?_ | refine al_opd rfl rfl rfl (ao_lenV Try.underlying28 rfl hb) ?_
  first | refine al_opd rfl rfl rfl (ao_mv (v := .slice _ _ _) rfl) ?_ | refine al_opd rfl rfl rfl (ao_mv (v := v) rfl) ?_ | refine al_opd rfl rfl rfl (ao_mv (v := u) rfl) ?_
  first | refine al_opd rfl rfl rfl (ao_lenS Try.underlying28 (by rfl)) ?_ | refine al_opd rfl rfl rfl (ao_lenN Try.underlying28 (by rfl)) ?_ | refine al_opd rfl rfl rfl (ao_lenV Try.underlying28 rfl ha) ?_ | refine al_opd rfl rfl rfl (ao_lenV Try.underlying28 rfl hb) ?_
  refine al_opd rfl rfl rfl (ao_neq rfl rfl) ?_
  refine al_nilT ?_
  refine aw_cond rfl (fun h1_ => ?_) (fun h1_ => ?_)
  · try simp only [decide_eq_true_eq, decide_eq_false_iff_not, Bool.not_eq_true', Bool.not_eq_false', Bool.and_eq_true, Bool.or_eq_true, Bool.and_eq_false_iff, Bool.or_eq_false_iff, beq_iff_eq, bne_iff_ne, beq_eq_false_iff_ne, bne_eq_false_iff_eq, ne_eq, Decidable.not_not, Bool.decide_eq_true] at h1_
    refine aw_seq ?_
    refine aw_region ?_
    refine al_opd rfl rfl rfl (ao_as (v := .bool _) rfl) ?_
    refine al_nilT ?_
    refine aw_ret ?_
    refine thenA_r ?_
    refine ends1 rfl (rv_tmp (v := .bool _) rfl) ?_
    exact ⟨by rw [decide_eq_false (fun e => h1_ (by rw [e]))], by (repeat (first | exact Same.refl _ _ | assumption | refine Same.push ?_ (by (first | exact Nat.le_refl _ | omega | (simp only [next_push, next_set, next_kill]; omega))) _ | refine Same.set ?_ (by (first | exact Nat.le_refl _ | omega | (simp only [next_push, next_set, next_kill]; omega))) _ | refine Same.kill ?_ (by (first | exact Nat.le_refl _ | omega | (simp only [next_push, next_set, next_kill]; omega)))))⟩
  · try simp only [decide_eq_true_eq, decide_eq_false_iff_not, Bool.not_eq_true', Bool.not_eq_false', Bool.and_eq_true, Bool.or_eq_true, Bool.and_eq_false_iff, Bool.or_eq_false_iff, beq_iff_eq, bne_iff_ne, beq_eq_false_iff_ne, bne_eq_false_iff_eq, ne_eq, Decidable.not_not, Bool.decide_eq_true] at h1_
    refine aw_skipT ?_
    refine aw_seq ?_
    refine aw_seq ?_
    refine aw_region ?_
    refine al_opd rfl rfl rfl (ao_as (v := .int _ _) rfl) ?_
    refine al_nilT ?_
    refine aw_block ?_
    refine aw_loop (fun (gk : Nat) (fr : AFr) (G : AHeap) => ∃ get : Nat → Value, fr = ⟨26, get⟩ ∧ (∃ i : Nat, i ≤ l.length ∧ gk = l.length - i ∧ G = H ∧ get 0 = v ∧ get 1 = u ∧ get 5 = .int .i64 i ∧ l.take i = m.take i)) (l.length) ⟨_, rfl, ?_⟩ ?_
    · exact ⟨0, Nat.zero_le _, rfl, rfl, rfl, rfl, rfl, by simp⟩
    · rintro gk fr G ⟨get, rfl, i, hi, rfl, rfl, g0, g1, g5, hq⟩
      have hlen : l.length = m.length := by omega
      refine aw_slot (d := 0) (v := v) (by first | assumption | rfl) ?_
      refine aw_slot (d := 1) (v := u) (by first | assumption | rfl) ?_
      refine aw_slot (d := 5) (v := .int .i64 i) (by first | assumption | rfl) ?_
      refine aw_seq ?_
      refine aw_seq ?_
      refine aw_region ?_
      refine al_opd rfl rfl rfl (ao_mv (v := .int _ _) rfl) ?_
      first | refine al_opd rfl rfl rfl (ao_mv (v := .slice _ _ _) rfl) ?_ | refine al_opd rfl rfl rfl (ao_mv (v := v) rfl) ?_ | refine al_opd rfl rfl rfl (ao_mv (v := u) rfl) ?_
      first | refine al_opd rfl rfl rfl (ao_lenS Try.underlying28 (by rfl)) ?_ | refine al_opd rfl rfl rfl (ao_lenN Try.underlying28 (by rfl)) ?_ | refine al_opd rfl rfl rfl (ao_lenV Try.underlying28 rfl ha) ?_ | refine al_opd rfl rfl rfl (ao_lenV Try.underlying28 rfl hb) ?_
      refine al_opd rfl rfl rfl (ao_lss rfl rfl) ?_
      refine al_nilT ?_
      refine aw_cond rfl (fun h2_ => ?_) (fun h2_ => ?_)
      · try simp only [decide_eq_true_eq, decide_eq_false_iff_not, Bool.not_eq_true', Bool.not_eq_false', Bool.and_eq_true, Bool.or_eq_true, Bool.and_eq_false_iff, Bool.or_eq_false_iff, beq_iff_eq, bne_iff_ne, beq_eq_false_iff_ne, bne_eq_false_iff_eq, ne_eq, Decidable.not_not, Bool.decide_eq_true] at h2_
        obtain ⟨x, hx⟩ := get_lt (show i < l.length by omega)
        obtain ⟨y, hy⟩ := get_lt (show i < m.length by omega)
        refine aw_skipT ?_
        refine aw_seq ?_
        refine aw_block ?_
        refine aw_seq ?_
        refine aw_draw (m := 9) mo (by kernel_rfl) rfl ?_
        first | refine dw_opd rfl rfl rfl (ao_mv (v := .slice _ _ _) rfl) ?_ | refine dw_opd rfl rfl rfl (ao_mv (v := v) rfl) ?_ | refine dw_opd rfl rfl rfl (ao_mv (v := u) rfl) ?_
        refine dw_opd rfl rfl rfl (ao_mv (v := .int _ _) rfl) ?_
        first | refine dw_opd rfl rfl rfl (ao_indexAddrS Try.underlying28 Try.sizeOf81 rfl rfl (by first | omega | decide | (simp; omega)) (by first | omega | decide | (simp; omega))) ?_ | refine dw_opd rfl rfl rfl (ao_indexV Try.underlying28 Try.sizeOf81 rfl rfl ha (by first | omega | decide | (simp; omega)) (by first | omega | decide | (simp; omega))) ?_ | refine dw_opd rfl rfl rfl (ao_indexV Try.underlying28 Try.sizeOf81 rfl rfl hb (by first | omega | decide | (simp; omega)) (by first | omega | decide | (simp; omega))) ?_
        first | refine dw_opd rfl rfl rfl (ao_loada Try.isAgg81 Try.sizeOf81 rfl (by ((repeat (first | exact blk_push_new _ _ | assumption | apply blk_push_old | apply blk_set_same | refine (blk_set_ne (by first | assumption | omega | (simp only [next_push, next_set, next_kill, ne_eq]; omega))).trans ?_ | refine (blk_kill_ne (by first | assumption | omega | (simp only [next_push, next_set, next_kill, ne_eq]; omega))).trans ?_)); (first | done | fail))) (by rfl) (by first | rfl | (simp; (first | done | fail)))) ?_ | refine dw_opd rfl rfl rfl (ao_loadsV (A := #[.int _ _, .int _ _]) Try.isAgg81 Try.sizeOf81 ha rfl (by assumption) rfl (by decide)) ?_ | refine dw_opd rfl rfl rfl (ao_loadsV (A := #[.int _ _, .int _ _]) Try.isAgg81 Try.sizeOf81 hb rfl (by assumption) rfl (by decide)) ?_
        first | refine dw_opd rfl rfl rfl (ao_mv (v := .slice _ _ _) rfl) ?_ | refine dw_opd rfl rfl rfl (ao_mv (v := v) rfl) ?_ | refine dw_opd rfl rfl rfl (ao_mv (v := u) rfl) ?_
        refine dw_opd rfl rfl rfl (ao_mv (v := .int _ _) rfl) ?_
        first | refine dw_opd rfl rfl rfl (ao_indexAddrS Try.underlying28 Try.sizeOf81 rfl rfl (by first | omega | decide | (simp; omega)) (by first | omega | decide | (simp; omega))) ?_ | refine dw_opd rfl rfl rfl (ao_indexV Try.underlying28 Try.sizeOf81 rfl rfl ha (by first | omega | decide | (simp; omega)) (by first | omega | decide | (simp; omega))) ?_ | refine dw_opd rfl rfl rfl (ao_indexV Try.underlying28 Try.sizeOf81 rfl rfl hb (by first | omega | decide | (simp; omega)) (by first | omega | decide | (simp; omega))) ?_
        first | refine dw_opd rfl rfl rfl (ao_loada Try.isAgg81 Try.sizeOf81 rfl (by ((repeat (first | exact blk_push_new _ _ | assumption | apply blk_push_old | apply blk_set_same | refine (blk_set_ne (by first | assumption | omega | (simp only [next_push, next_set, next_kill, ne_eq]; omega))).trans ?_ | refine (blk_kill_ne (by first | assumption | omega | (simp only [next_push, next_set, next_kill, ne_eq]; omega))).trans ?_)); (first | done | fail))) (by rfl) (by first | rfl | (simp; (first | done | fail)))) ?_ | refine dw_opd rfl rfl rfl (ao_loadsV (A := #[.int _ _, .int _ _]) Try.isAgg81 Try.sizeOf81 ha rfl (by assumption) rfl (by decide)) ?_ | refine dw_opd rfl rfl rfl (ao_loadsV (A := #[.int _ _, .int _ _]) Try.isAgg81 Try.sizeOf81 hb rfl (by assumption) rfl (by decide)) ?_
        refine dw_opd rfl rfl rfl (ao_neV Try.eqGuardType81 rfl rfl rfl rfl (eqS81 _ _ _ _)) ?_
        refine dw_end ?_
        refine al_nilT ?_
        refine aw_cond rfl (fun h3_ => ?_) (fun h3_ => ?_)
        · try simp only [decide_eq_true_eq, decide_eq_false_iff_not, Bool.not_eq_true', Bool.not_eq_false', Bool.and_eq_true, Bool.or_eq_true, Bool.and_eq_false_iff, Bool.or_eq_false_iff, beq_iff_eq, bne_iff_ne, beq_eq_false_iff_ne, bne_eq_false_iff_eq, ne_eq, Decidable.not_not, Bool.decide_eq_true] at h3_
          refine aw_seq ?_
          refine aw_region ?_
          refine al_opd rfl rfl rfl (ao_as (v := .bool _) rfl) ?_
          refine al_nilT ?_
          refine aw_ret ?_
          refine blockA_r ?_
          refine thenA_r ?_
          refine thenA_r ?_
          refine blockA_r ?_
          refine thenA_r ?_
          refine ends1 rfl (rv_tmp (v := .bool _) rfl) ?_
          exact ⟨by rw [decide_eq_false (ne_at hx hy (fun e => by subst e; simp at h3_))], by (repeat (first | exact Same.refl _ _ | assumption | refine Same.push ?_ (by (first | exact Nat.le_refl _ | omega | (simp only [next_push, next_set, next_kill]; omega))) _ | refine Same.set ?_ (by (first | exact Nat.le_refl _ | omega | (simp only [next_push, next_set, next_kill]; omega))) _ | refine Same.kill ?_ (by (first | exact Nat.le_refl _ | omega | (simp only [next_push, next_set, next_kill]; omega)))))⟩
        · try simp only [decide_eq_true_eq, decide_eq_false_iff_not, Bool.not_eq_true', Bool.not_eq_false', Bool.and_eq_true, Bool.or_eq_true, Bool.and_eq_false_iff, Bool.or_eq_false_iff, beq_iff_eq, bne_iff_ne, beq_eq_false_iff_ne, bne_eq_false_iff_eq, ne_eq, Decidable.not_not, Bool.decide_eq_true] at h3_
          refine aw_skipB ?_
          refine thenA_n ?_
          refine aw_region ?_
          refine al_opd rfl rfl rfl (ao_mv (v := .int _ _) rfl) ?_
          first | refine al_opd rfl rfl rfl ((ao_add rfl rfl).val (nw_i64 (by first | omega | decide) (by first | omega | decide))) ?_ | refine al_opd rfl rfl rfl (ao_add rfl rfl) ?_
          refine al_opd rfl rfl rfl (ao_as (v := .int _ _) rfl) ?_
          refine al_nilT ?_
          exact ⟨_, by omega, _, rfl, i + 1, by omega, rfl, rfl, rfl, rfl, by rfl, take_step hq hx (by rw [hy]; exact congrArg some (hold_ext h3_.1 h3_.2).symm)⟩
      · try simp only [decide_eq_true_eq, decide_eq_false_iff_not, Bool.not_eq_true', Bool.not_eq_false', Bool.and_eq_true, Bool.or_eq_true, Bool.and_eq_false_iff, Bool.or_eq_false_iff, beq_iff_eq, bne_iff_ne, beq_eq_false_iff_ne, bne_eq_false_iff_eq, ne_eq, Decidable.not_not, Bool.decide_eq_true] at h2_
        refine aw_exit ?_
        refine thenA_x ?_
        refine thenA_x ?_
        refine blockA_hit ?_
        refine thenA_n ?_
        refine aw_seq ?_
        refine aw_region ?_
        refine al_opd rfl rfl rfl (ao_as (v := .bool _) rfl) ?_
        refine al_nilT ?_
        refine aw_ret ?_
        refine ends1 rfl (rv_tmp (v := .bool _) rfl) ?_
        exact ⟨by rw [decide_eq_true (take_all hq (by omega) hlen)], by (repeat (first | exact Same.refl _ _ | assumption | refine Same.push ?_ (by (first | exact Nat.le_refl _ | omega | (simp only [next_push, next_set, next_kill]; omega))) _ | refine Same.set ?_ (by (first | exact Nat.le_refl _ | omega | (simp only [next_push, next_set, next_kill]; omega))) _ | refine Same.kill ?_ (by (first | exact Nat.le_refl _ | omega | (simp only [next_push, next_set, next_kill]; omega)))))⟩

-- spec.SameSaid
theorem specSameSaid_c {v u : Value} {l m : List Said} {H : AHeap} (ha : Sl H said 2 v l) (hb : Sl H said 2 u m) (hl : l.length ≤ 4194304) : ACd Try.prog 98 [v, u] H (.bool (decide (l = m))) (H) := by
  refine ac_gc0 (fun β => VR.plainT β (by first | rfl | simp [plainT, plainV, plain1])) (ac_body Try.func98 rfl Try.ntmps98 rfl ?_)
  refine aw_seq ?_
  refine aw_region ?_
  refine al_opd rfl rfl rfl (ao_as (v := .bool _) rfl) ?_
  refine al_nilT ?_
  refine aw_seq ?_
  refine aw_seq ?_
  refine aw_region ?_
  first | refine al_opd rfl rfl rfl (ao_mv (v := .slice _ _ _) rfl) ?_ | refine al_opd rfl rfl rfl (ao_mv (v := v) rfl) ?_ | refine al_opd rfl rfl rfl (ao_mv (v := u) rfl) ?_
  first | refine al_opd rfl rfl rfl (ao_lenS Try.underlying67 (by rfl)) ?_ | refine al_opd rfl rfl rfl (ao_lenN Try.underlying67 (by rfl)) ?_ | refine al_opd rfl rfl rfl (ao_lenV Try.underlying67 rfl ha) ?_ | refine al_opd rfl rfl rfl (ao_lenV Try.underlying67 rfl hb) ?_
  first | refine al_opd rfl rfl rfl (ao_mv (v := .slice _ _ _) rfl) ?_ | refine al_opd rfl rfl rfl (ao_mv (v := v) rfl) ?_ | refine al_opd rfl rfl rfl (ao_mv (v := u) rfl) ?_
  first | refine al_opd rfl rfl rfl (ao_lenS Try.underlying67 (by rfl)) ?_ | refine al_opd rfl rfl rfl (ao_lenN Try.underlying67 (by rfl)) ?_ | refine al_opd rfl rfl rfl (ao_lenV Try.underlying67 rfl ha) ?_ | refine al_opd rfl rfl rfl (ao_lenV Try.underlying67 rfl hb) ?_
  refine al_opd rfl rfl rfl (ao_neq rfl rfl) ?_
  refine al_nilT ?_
  refine aw_cond rfl (fun h1_ => ?_) (fun h1_ => ?_)
  · try simp only [decide_eq_true_eq, decide_eq_false_iff_not, Bool.not_eq_true', Bool.not_eq_false', Bool.and_eq_true, Bool.or_eq_true, Bool.and_eq_false_iff, Bool.or_eq_false_iff, beq_iff_eq, bne_iff_ne, beq_eq_false_iff_ne, bne_eq_false_iff_eq, ne_eq, Decidable.not_not, Bool.decide_eq_true] at h1_
    refine aw_seq ?_
    refine aw_region ?_
    refine al_opd rfl rfl rfl (ao_as (v := .bool _) rfl) ?_
    refine al_nilT ?_
    refine aw_ret ?_
    refine thenA_r ?_
    refine ends1 rfl (rv_tmp (v := .bool _) rfl) ?_
    exact ⟨by rw [decide_eq_false (fun e => h1_ (by rw [e]))], by (repeat (first | exact Same.refl _ _ | assumption | refine Same.push ?_ (by (first | exact Nat.le_refl _ | omega | (simp only [next_push, next_set, next_kill]; omega))) _ | refine Same.set ?_ (by (first | exact Nat.le_refl _ | omega | (simp only [next_push, next_set, next_kill]; omega))) _ | refine Same.kill ?_ (by (first | exact Nat.le_refl _ | omega | (simp only [next_push, next_set, next_kill]; omega)))))⟩
  · try simp only [decide_eq_true_eq, decide_eq_false_iff_not, Bool.not_eq_true', Bool.not_eq_false', Bool.and_eq_true, Bool.or_eq_true, Bool.and_eq_false_iff, Bool.or_eq_false_iff, beq_iff_eq, bne_iff_ne, beq_eq_false_iff_ne, bne_eq_false_iff_eq, ne_eq, Decidable.not_not, Bool.decide_eq_true] at h1_
    refine aw_skipT ?_
    refine aw_seq ?_
    refine aw_seq ?_
    refine aw_region ?_
    refine al_opd rfl rfl rfl (ao_as (v := .int _ _) rfl) ?_
    refine al_nilT ?_
    refine aw_block ?_
    refine aw_loop (fun (gk : Nat) (fr : AFr) (G : AHeap) => ∃ get : Nat → Value, fr = ⟨26, get⟩ ∧ (∃ i : Nat, i ≤ l.length ∧ gk = l.length - i ∧ G = H ∧ get 0 = v ∧ get 1 = u ∧ get 5 = .int .i64 i ∧ l.take i = m.take i)) (l.length) ⟨_, rfl, ?_⟩ ?_
    · exact ⟨0, Nat.zero_le _, rfl, rfl, rfl, rfl, rfl, by simp⟩
    · rintro gk fr G ⟨get, rfl, i, hi, rfl, rfl, g0, g1, g5, hq⟩
      have hlen : l.length = m.length := by omega
      refine aw_slot (d := 0) (v := v) (by first | assumption | rfl) ?_
      refine aw_slot (d := 1) (v := u) (by first | assumption | rfl) ?_
      refine aw_slot (d := 5) (v := .int .i64 i) (by first | assumption | rfl) ?_
      refine aw_seq ?_
      refine aw_seq ?_
      refine aw_region ?_
      refine al_opd rfl rfl rfl (ao_mv (v := .int _ _) rfl) ?_
      first | refine al_opd rfl rfl rfl (ao_mv (v := .slice _ _ _) rfl) ?_ | refine al_opd rfl rfl rfl (ao_mv (v := v) rfl) ?_ | refine al_opd rfl rfl rfl (ao_mv (v := u) rfl) ?_
      first | refine al_opd rfl rfl rfl (ao_lenS Try.underlying67 (by rfl)) ?_ | refine al_opd rfl rfl rfl (ao_lenN Try.underlying67 (by rfl)) ?_ | refine al_opd rfl rfl rfl (ao_lenV Try.underlying67 rfl ha) ?_ | refine al_opd rfl rfl rfl (ao_lenV Try.underlying67 rfl hb) ?_
      refine al_opd rfl rfl rfl (ao_lss rfl rfl) ?_
      refine al_nilT ?_
      refine aw_cond rfl (fun h2_ => ?_) (fun h2_ => ?_)
      · try simp only [decide_eq_true_eq, decide_eq_false_iff_not, Bool.not_eq_true', Bool.not_eq_false', Bool.and_eq_true, Bool.or_eq_true, Bool.and_eq_false_iff, Bool.or_eq_false_iff, beq_iff_eq, bne_iff_ne, beq_eq_false_iff_ne, bne_eq_false_iff_eq, ne_eq, Decidable.not_not, Bool.decide_eq_true] at h2_
        obtain ⟨x, hx⟩ := get_lt (show i < l.length by omega)
        obtain ⟨y, hy⟩ := get_lt (show i < m.length by omega)
        refine aw_skipT ?_
        refine aw_seq ?_
        refine aw_block ?_
        refine aw_seq ?_
        refine aw_draw (m := 9) mo (by kernel_rfl) rfl ?_
        first | refine dw_opd rfl rfl rfl (ao_mv (v := .slice _ _ _) rfl) ?_ | refine dw_opd rfl rfl rfl (ao_mv (v := v) rfl) ?_ | refine dw_opd rfl rfl rfl (ao_mv (v := u) rfl) ?_
        refine dw_opd rfl rfl rfl (ao_mv (v := .int _ _) rfl) ?_
        first | refine dw_opd rfl rfl rfl (ao_indexAddrS Try.underlying67 Try.sizeOf101 rfl rfl (by first | omega | decide | (simp; omega)) (by first | omega | decide | (simp; omega))) ?_ | refine dw_opd rfl rfl rfl (ao_indexV Try.underlying67 Try.sizeOf101 rfl rfl ha (by first | omega | decide | (simp; omega)) (by first | omega | decide | (simp; omega))) ?_ | refine dw_opd rfl rfl rfl (ao_indexV Try.underlying67 Try.sizeOf101 rfl rfl hb (by first | omega | decide | (simp; omega)) (by first | omega | decide | (simp; omega))) ?_
        first | refine dw_opd rfl rfl rfl (ao_loada Try.isAgg101 Try.sizeOf101 rfl (by ((repeat (first | exact blk_push_new _ _ | assumption | apply blk_push_old | apply blk_set_same | refine (blk_set_ne (by first | assumption | omega | (simp only [next_push, next_set, next_kill, ne_eq]; omega))).trans ?_ | refine (blk_kill_ne (by first | assumption | omega | (simp only [next_push, next_set, next_kill, ne_eq]; omega))).trans ?_)); (first | done | fail))) (by rfl) (by first | rfl | (simp; (first | done | fail)))) ?_ | refine dw_opd rfl rfl rfl (ao_loadsV (A := #[.int _ _, .int _ _]) Try.isAgg101 Try.sizeOf101 ha rfl (by assumption) rfl (by decide)) ?_ | refine dw_opd rfl rfl rfl (ao_loadsV (A := #[.int _ _, .int _ _]) Try.isAgg101 Try.sizeOf101 hb rfl (by assumption) rfl (by decide)) ?_
        first | refine dw_opd rfl rfl rfl (ao_mv (v := .slice _ _ _) rfl) ?_ | refine dw_opd rfl rfl rfl (ao_mv (v := v) rfl) ?_ | refine dw_opd rfl rfl rfl (ao_mv (v := u) rfl) ?_
        refine dw_opd rfl rfl rfl (ao_mv (v := .int _ _) rfl) ?_
        first | refine dw_opd rfl rfl rfl (ao_indexAddrS Try.underlying67 Try.sizeOf101 rfl rfl (by first | omega | decide | (simp; omega)) (by first | omega | decide | (simp; omega))) ?_ | refine dw_opd rfl rfl rfl (ao_indexV Try.underlying67 Try.sizeOf101 rfl rfl ha (by first | omega | decide | (simp; omega)) (by first | omega | decide | (simp; omega))) ?_ | refine dw_opd rfl rfl rfl (ao_indexV Try.underlying67 Try.sizeOf101 rfl rfl hb (by first | omega | decide | (simp; omega)) (by first | omega | decide | (simp; omega))) ?_
        first | refine dw_opd rfl rfl rfl (ao_loada Try.isAgg101 Try.sizeOf101 rfl (by ((repeat (first | exact blk_push_new _ _ | assumption | apply blk_push_old | apply blk_set_same | refine (blk_set_ne (by first | assumption | omega | (simp only [next_push, next_set, next_kill, ne_eq]; omega))).trans ?_ | refine (blk_kill_ne (by first | assumption | omega | (simp only [next_push, next_set, next_kill, ne_eq]; omega))).trans ?_)); (first | done | fail))) (by rfl) (by first | rfl | (simp; (first | done | fail)))) ?_ | refine dw_opd rfl rfl rfl (ao_loadsV (A := #[.int _ _, .int _ _]) Try.isAgg101 Try.sizeOf101 ha rfl (by assumption) rfl (by decide)) ?_ | refine dw_opd rfl rfl rfl (ao_loadsV (A := #[.int _ _, .int _ _]) Try.isAgg101 Try.sizeOf101 hb rfl (by assumption) rfl (by decide)) ?_
        refine dw_opd rfl rfl rfl (ao_neV Try.eqGuardType101 rfl rfl rfl rfl (eqS101 _ _ _ _)) ?_
        refine dw_end ?_
        refine al_nilT ?_
        refine aw_cond rfl (fun h3_ => ?_) (fun h3_ => ?_)
        · try simp only [decide_eq_true_eq, decide_eq_false_iff_not, Bool.not_eq_true', Bool.not_eq_false', Bool.and_eq_true, Bool.or_eq_true, Bool.and_eq_false_iff, Bool.or_eq_false_iff, beq_iff_eq, bne_iff_ne, beq_eq_false_iff_ne, bne_eq_false_iff_eq, ne_eq, Decidable.not_not, Bool.decide_eq_true] at h3_
          refine aw_seq ?_
          refine aw_region ?_
          refine al_opd rfl rfl rfl (ao_as (v := .bool _) rfl) ?_
          refine al_nilT ?_
          refine aw_ret ?_
          refine blockA_r ?_
          refine thenA_r ?_
          refine thenA_r ?_
          refine blockA_r ?_
          refine thenA_r ?_
          refine ends1 rfl (rv_tmp (v := .bool _) rfl) ?_
          exact ⟨by rw [decide_eq_false (ne_at hx hy (fun e => by subst e; simp at h3_))], by (repeat (first | exact Same.refl _ _ | assumption | refine Same.push ?_ (by (first | exact Nat.le_refl _ | omega | (simp only [next_push, next_set, next_kill]; omega))) _ | refine Same.set ?_ (by (first | exact Nat.le_refl _ | omega | (simp only [next_push, next_set, next_kill]; omega))) _ | refine Same.kill ?_ (by (first | exact Nat.le_refl _ | omega | (simp only [next_push, next_set, next_kill]; omega)))))⟩
        · try simp only [decide_eq_true_eq, decide_eq_false_iff_not, Bool.not_eq_true', Bool.not_eq_false', Bool.and_eq_true, Bool.or_eq_true, Bool.and_eq_false_iff, Bool.or_eq_false_iff, beq_iff_eq, bne_iff_ne, beq_eq_false_iff_ne, bne_eq_false_iff_eq, ne_eq, Decidable.not_not, Bool.decide_eq_true] at h3_
          refine aw_skipB ?_
          refine thenA_n ?_
          refine aw_region ?_
          refine al_opd rfl rfl rfl (ao_mv (v := .int _ _) rfl) ?_
          first | refine al_opd rfl rfl rfl ((ao_add rfl rfl).val (nw_i64 (by first | omega | decide) (by first | omega | decide))) ?_ | refine al_opd rfl rfl rfl (ao_add rfl rfl) ?_
          refine al_opd rfl rfl rfl (ao_as (v := .int _ _) rfl) ?_
          refine al_nilT ?_
          exact ⟨_, by omega, _, rfl, i + 1, by omega, rfl, rfl, rfl, rfl, by rfl, take_step hq hx (by rw [hy]; exact congrArg some (said_ext h3_.1 h3_.2).symm)⟩
      · try simp only [decide_eq_true_eq, decide_eq_false_iff_not, Bool.not_eq_true', Bool.not_eq_false', Bool.and_eq_true, Bool.or_eq_true, Bool.and_eq_false_iff, Bool.or_eq_false_iff, beq_iff_eq, bne_iff_ne, beq_eq_false_iff_ne, bne_eq_false_iff_eq, ne_eq, Decidable.not_not, Bool.decide_eq_true] at h2_
        refine aw_exit ?_
        refine thenA_x ?_
        refine thenA_x ?_
        refine blockA_hit ?_
        refine thenA_n ?_
        refine aw_seq ?_
        refine aw_region ?_
        refine al_opd rfl rfl rfl (ao_as (v := .bool _) rfl) ?_
        refine al_nilT ?_
        refine aw_ret ?_
        refine ends1 rfl (rv_tmp (v := .bool _) rfl) ?_
        exact ⟨by rw [decide_eq_true (take_all hq (by omega) hlen)], by (repeat (first | exact Same.refl _ _ | assumption | refine Same.push ?_ (by (first | exact Nat.le_refl _ | omega | (simp only [next_push, next_set, next_kill]; omega))) _ | refine Same.set ?_ (by (first | exact Nat.le_refl _ | omega | (simp only [next_push, next_set, next_kill]; omega))) _ | refine Same.kill ?_ (by (first | exact Nat.le_refl _ | omega | (simp only [next_push, next_set, next_kill]; omega)))))⟩

end Go.Proofs.Ytohaokdgokknaaa
