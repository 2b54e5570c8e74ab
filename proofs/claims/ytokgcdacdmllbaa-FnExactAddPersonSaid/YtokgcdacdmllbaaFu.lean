/- Contracts of the program's functions over abstract heaps. -/
import Derived.Test.YtokgcdacdmllbaaFile3
import Derived.Test.YtokgcdacdmllbaaRm
import Derived.Test.YtokgcdacdmllbaaFv
import Derived.Test.YtokgcdacdmllbaaFh
import Derived.Test.YtokgcdacdmllbaaFd
namespace Go.Proofs.Ytokgcdacdmllbaa
open Go Go.AW Go.Proofs
set_option linter.unusedVariables false
set_option linter.unusedSimpArgs false
set_option maxRecDepth 100000
set_option maxHeartbeats 2000000

theorem isFileN_c {l : List Spot} {lb n c' : Nat} {r : Room} {b : Bool} {cs : List Value} {H : AHeap} (hk : H.blk lb = some (.cells cs 2)) (hcs : cs = fl spot l) (hnl : n = l.length) (hcc : n ≤ c') (hn : l.length ≤ 4194304) (hw : wfRoom r) (hsp : wfSpots l) (hb : b = true ↔ fileOk r l) : ACd Try.prog 69 [.slice (some ⟨lb, 0, none⟩) n c', .agg (roomC r).toArray] H (.bool b) H := by
  subst hcs hnl
  exact isFile_c hk hcc hn hw hsp hb

theorem l02FileN_c {l : List Spot} {lb n c' : Nat} {r : Room} {pb : Nat} {b : Bool} {cs : List Value} {H : AHeap} (hp : H.blk pb = some (.cells (roomC r) 1)) (hk : H.blk lb = some (.cells cs 2)) (hcs : cs = fl spot l) (hnl : n = l.length) (hcc : n ≤ c') (hn : l.length ≤ 4194304) (hr : okRoom r) (hw : wfRoom r) (hsp : wfSpots l) (hb : b = true ↔ fileOk r l) : ACd Try.prog 85 [.pointer (some ⟨pb, 0, none⟩), .slice (some ⟨lb, 0, none⟩) n c'] H (.bool b) H := by
  subst hcs hnl
  exact l02File_c hp hk hcc hn hr hw hsp hb

-- spec.AddPerson
theorem specAdd1_c {l : List Spot} {lb c' : Nat} {r : Room} {s : Spot} {H : AHeap} (hk0 : H.blk lb = some (.cells (fl spot l) 2)) (hcc' : l.length ≤ c') (hn : l.length ≤ 4194304) (hw : wfRoom r) (hsp : wfSpots l) (hs : wfSpot s) (hv : okFile r l) (h12 : l.length ≠ 12) (hf : fileOk r (l ++ [s])) : ACd Try.prog 49 [.agg (roomC r).toArray, .slice (some ⟨lb, 0, none⟩) l.length c', .agg #[.int .i8 s.x, .int .i8 s.y]] H (.tuple #[.slice (some ⟨H.next, 0, none⟩) (l ++ [s]).length ((l ++ [s]).length + 1), .int .i64 0]) (H.push (.cells (fl spot (l ++ [s])) 2)) := by
  have hh0 : Sl H spot 2 (.slice (some ⟨lb, 0, none⟩) l.length c') l := Sl.full spot_len hk0 rfl rfl rfl
  have hlt0 := AHeap.lt hk0
  have hvf := hv.2.1
  have hv1 := hvf.2.1
  have hv2 := hvf.2.2
  have hla : (l ++ [s]).length = l.length + 1 := by simp
  have hspa : wfSpots (l ++ [s]) := wfSpots_snoc hsp hs
  refine ac_gcs (vrl_fl spot_plain _) (ac_body Try.func49 rfl Try.ntmps49 rfl ?_)
  refine aw_seq ?_
  refine aw_region ?_
  refine al_opd rfl rfl rfl (ao_boxa (by rfl)) ?_
  refine al_opd rfl rfl rfl (ao_boxa (by rfl)) ?_
  refine al_opd rfl rfl rfl (ao_as (v := .slice _ _ _) rfl) ?_
  refine al_opd rfl rfl rfl (ao_as (v := .int _ _) rfl) ?_
  refine al_nilT ?_
  refine aw_seq ?_
  refine aw_seq ?_
  refine aw_region ?_
  refine al_opd rfl rfl rfl (ao_mv (v := .slice _ _ _) rfl) ?_
  refine al_opd rfl rfl rfl (ao_calld (l02Ok_c (l := l) (lb := lb) (c' := c') (r := r) (b := true) (by ((repeat (first | exact blk_push_new _ _ | assumption | apply blk_push_old | apply blk_set_same | refine (blk_set_ne (by first | assumption | omega | (simp only [next_push, next_set, next_kill, ne_eq]; omega))).trans ?_ | refine (blk_kill_ne (by first | assumption | omega | (simp only [next_push, next_set, next_kill, ne_eq]; omega))).trans ?_)); (first | done | fail))) (by ((repeat (first | exact blk_push_new _ _ | assumption | apply blk_push_old | apply blk_set_same | refine (blk_set_ne (by first | assumption | omega | (simp only [next_push, next_set, next_kill, ne_eq]; omega))).trans ?_ | refine (blk_kill_ne (by first | assumption | omega | (simp only [next_push, next_set, next_kill, ne_eq]; omega))).trans ?_)); (first | done | fail))) hcc' hn hw hsp (yes hv)) Try.call66 rfl rfl) ?_
  refine al_opd rfl rfl rfl (ao_not rfl) ?_
  refine al_nilT ?_
  refine aw_cond rfl (fun h1_ => ?_) (fun h1_ => ?_)
  · try simp only [decide_eq_true_eq, decide_eq_false_iff_not, Bool.not_eq_true', Bool.not_eq_false', Bool.and_eq_true, Bool.or_eq_true, Bool.and_eq_false_iff, Bool.or_eq_false_iff, beq_iff_eq, bne_iff_ne, beq_eq_false_iff_ne, bne_eq_false_iff_eq, ne_eq, Decidable.not_not, Bool.decide_eq_true] at h1_
    first | done | omega | (exfalso; revert h1_; simp; (first | done | omega))
  · try simp only [decide_eq_true_eq, decide_eq_false_iff_not, Bool.not_eq_true', Bool.not_eq_false', Bool.and_eq_true, Bool.or_eq_true, Bool.and_eq_false_iff, Bool.or_eq_false_iff, beq_iff_eq, bne_iff_ne, beq_eq_false_iff_ne, bne_eq_false_iff_eq, ne_eq, Decidable.not_not, Bool.decide_eq_true] at h1_
    refine aw_skipT ?_
    refine aw_seq ?_
    refine aw_seq ?_
    refine aw_region ?_
    refine al_opd rfl rfl rfl (ao_mv (v := .slice _ _ _) rfl) ?_
    first | refine al_opd rfl rfl rfl (ao_lenS Try.underlying26 (by rfl)) ?_ | refine al_opd rfl rfl rfl (ao_lenN Try.underlying26 (by rfl)) ?_
    refine al_opd rfl rfl rfl (ao_eql rfl rfl) ?_
    refine al_nilT ?_
    refine aw_cond rfl (fun h2_ => ?_) (fun h2_ => ?_)
    · try simp only [decide_eq_true_eq, decide_eq_false_iff_not, Bool.not_eq_true', Bool.not_eq_false', Bool.and_eq_true, Bool.or_eq_true, Bool.and_eq_false_iff, Bool.or_eq_false_iff, beq_iff_eq, bne_iff_ne, beq_eq_false_iff_ne, bne_eq_false_iff_eq, ne_eq, Decidable.not_not, Bool.decide_eq_true] at h2_
      first | done | omega | (exfalso; revert h2_; simp; (first | done | omega))
    · try simp only [decide_eq_true_eq, decide_eq_false_iff_not, Bool.not_eq_true', Bool.not_eq_false', Bool.and_eq_true, Bool.or_eq_true, Bool.and_eq_false_iff, Bool.or_eq_false_iff, beq_iff_eq, bne_iff_ne, beq_eq_false_iff_ne, bne_eq_false_iff_eq, ne_eq, Decidable.not_not, Bool.decide_eq_true] at h2_
      refine aw_skipT ?_
      refine aw_seq ?_
      refine aw_draw (m := 5) mo (by kernel_rfl) rfl (fun _ _ _ h => h) ?_
      refine dw_opn rfl rfl rfl (ao_lit0 Try.underlying26 Try.sizeOf63 Try.zeroValue63 (by rfl) (by rfl) rfl) ?_
      refine dw_opd rfl rfl rfl (ao_mv (v := .slice _ _ _) rfl) ?_
      refine dw_opn rfl rfl rfl (ao_appZ (m := l.length) (news := fl spot l) Try.underlying26 ⟨_, Try.underlying26⟩ elem63 (by rfl) (by rfl) ((hh0.mono (by (repeat (first | exact Same.refl _ _ | assumption | refine Same.push ?_ (by (first | exact Nat.le_refl _ | omega | (simp only [next_push, next_set, next_kill]; omega))) _ | refine Same.set ?_ (by (first | exact Nat.le_refl _ | omega | (simp only [next_push, next_set, next_kill]; omega))) _ | refine Same.kill ?_ (by (first | exact Nat.le_refl _ | omega | (simp only [next_push, next_set, next_kill]; omega))))))).src spot_len (by decide)) (by omega) (by omega) (by omega)) ?_
      refine dw_opd rfl rfl rfl (ao_loada Try.isAgg63 Try.sizeOf63 rfl (by ((repeat (first | exact blk_push_new _ _ | assumption | apply blk_push_old | apply blk_set_same | refine (blk_set_ne (by first | assumption | omega | (simp only [next_push, next_set, next_kill, ne_eq]; omega))).trans ?_ | refine (blk_kill_ne (by first | assumption | omega | (simp only [next_push, next_set, next_kill, ne_eq]; omega))).trans ?_)); (first | done | fail))) (by rfl) (by first | rfl | (simp; (first | done | fail)))) ?_
      refine dw_opn rfl rfl rfl (ao_lit1 (v := .agg _) Try.underlying26 Try.sizeOf63 Try.zeroValue63 (by rfl) (by rfl) rfl rfl (by rfl) (by first | rfl | (simp; (first | done | fail)))) ?_
      refine dw_end ?_
      refine al_opd rfl rfl rfl (ao_appC Try.underlying26 ⟨_, Try.underlying26⟩ elem63 (by rfl) (by rfl) (by ((repeat (first | exact blk_push_new _ _ | assumption | apply blk_push_old | apply blk_set_same | refine (blk_set_ne (by first | assumption | omega | (simp only [next_push, next_set, next_kill, ne_eq]; omega))).trans ?_ | refine (blk_kill_ne (by first | assumption | omega | (simp only [next_push, next_set, next_kill, ne_eq]; omega))).trans ?_)); (first | done | fail))) (by (rw [fl_len spot_len]; omega)) (by first | exact src_all (by ((repeat (first | exact blk_push_new _ _ | assumption | apply blk_push_old | apply blk_set_same | refine (blk_set_ne (by first | assumption | omega | (simp only [next_push, next_set, next_kill, ne_eq]; omega))).trans ?_ | refine (blk_kill_ne (by first | assumption | omega | (simp only [next_push, next_set, next_kill, ne_eq]; omega))).trans ?_)); (first | done | fail))) (by rfl) (by rfl) | exact src_all (by ((repeat (first | exact blk_push_new _ _ | assumption | apply blk_push_old | apply blk_set_same | refine (blk_set_ne (by first | assumption | omega | (simp only [next_push, next_set, next_kill, ne_eq]; omega))).trans ?_ | refine (blk_kill_ne (by first | assumption | omega | (simp only [next_push, next_set, next_kill, ne_eq]; omega))).trans ?_)); (first | done | fail))) (by rfl) (by simp)) (by first | rfl | simp [isOne]) (by first | omega | decide) (by first | omega | decide)) ?_
      refine al_opd rfl rfl rfl (ao_as (v := .slice _ _ _) rfl) ?_
      refine al_nilT ?_
      refine aw_seq ?_
      refine aw_seq ?_
      refine aw_region ?_
      refine al_opd rfl rfl rfl (ao_mv (v := .slice _ _ _) rfl) ?_
      refine al_opd rfl rfl rfl (ao_calld (l02FileN_c (l := (l ++ [s])) (r := r) (b := true) (by ((repeat (first | exact blk_push_new _ _ | assumption | apply blk_push_old | apply blk_set_same | refine (blk_set_ne (by first | assumption | omega | (simp only [next_push, next_set, next_kill, ne_eq]; omega))).trans ?_ | refine (blk_kill_ne (by first | assumption | omega | (simp only [next_push, next_set, next_kill, ne_eq]; omega))).trans ?_)); (first | done | fail))) (by ((repeat (first | exact blk_push_new _ _ | assumption | apply blk_push_old | apply blk_set_same | refine (blk_set_ne (by first | assumption | omega | (simp only [next_push, next_set, next_kill, ne_eq]; omega))).trans ?_ | refine (blk_kill_ne (by first | assumption | omega | (simp only [next_push, next_set, next_kill, ne_eq]; omega))).trans ?_)); (first | done | fail))) (by rw [fl_snoc]; rfl) (by simp) (by omega) (by omega) hv.1 hw hspa (yes hf)) Try.call85 rfl rfl) ?_
      refine al_opd rfl rfl rfl (ao_not rfl) ?_
      refine al_nilT ?_
      refine aw_cond rfl (fun h3_ => ?_) (fun h3_ => ?_)
      · try simp only [decide_eq_true_eq, decide_eq_false_iff_not, Bool.not_eq_true', Bool.not_eq_false', Bool.and_eq_true, Bool.or_eq_true, Bool.and_eq_false_iff, Bool.or_eq_false_iff, beq_iff_eq, bne_iff_ne, beq_eq_false_iff_ne, bne_eq_false_iff_eq, ne_eq, Decidable.not_not, Bool.decide_eq_true] at h3_
        first | done | omega | (exfalso; revert h3_; simp; (first | done | omega))
      · try simp only [decide_eq_true_eq, decide_eq_false_iff_not, Bool.not_eq_true', Bool.not_eq_false', Bool.and_eq_true, Bool.or_eq_true, Bool.and_eq_false_iff, Bool.or_eq_false_iff, beq_iff_eq, bne_iff_ne, beq_eq_false_iff_ne, bne_eq_false_iff_eq, ne_eq, Decidable.not_not, Bool.decide_eq_true] at h3_
        refine aw_skipT ?_
        refine aw_seq ?_
        refine aw_region ?_
        refine al_opd rfl rfl rfl (ao_mv (v := .slice _ _ _) rfl) ?_
        refine al_opd rfl rfl rfl (ao_as (v := .slice _ _ _) rfl) ?_
        refine al_opd rfl rfl rfl (ao_as (v := .int _ _) rfl) ?_
        refine al_nilT ?_
        refine aw_ret ?_
        refine ends2 rfl (rv_tmp (v := .slice _ _ _) rfl) (rv_tmp (v := .int _ _) rfl) ?_
        exact ⟨by (repeat (first | exact Same.refl _ _ | assumption | refine Same.push ?_ (by (first | exact Nat.le_refl _ | omega | (simp only [next_push, next_set, next_kill]; omega))) _ | refine Same.set ?_ (by (first | exact Nat.le_refl _ | omega | (simp only [next_push, next_set, next_kill]; omega))) _ | refine Same.kill ?_ (by (first | exact Nat.le_refl _ | omega | (simp only [next_push, next_set, next_kill]; omega))))), H.next + 5, by (first | exact Nat.le_refl _ | omega | (simp only [next_push, next_set, next_kill]; omega)), by rw [fl_snoc]; exact (by ((repeat (first | exact blk_push_new _ _ | assumption | apply blk_push_old | apply blk_set_same | refine (blk_set_ne (by first | assumption | omega | (simp only [next_push, next_set, next_kill, ne_eq]; omega))).trans ?_ | refine (blk_kill_ne (by first | assumption | omega | (simp only [next_push, next_set, next_kill, ne_eq]; omega))).trans ?_)); (first | done | fail))), fun ρ h => vr_tup2 (by rw [hla]; exact vr_sl h (by omega) (by omega)) (.int _ _)⟩

-- spec.AddPerson
theorem specAdd4_c {l : List Spot} {lb c' : Nat} {r : Room} {s : Spot} {H : AHeap} (hk0 : H.blk lb = some (.cells (fl spot l) 2)) (hcc' : l.length ≤ c') (hn : l.length ≤ 4194304) (hw : wfRoom r) (hsp : wfSpots l) (hs : wfSpot s) (hv : okFile r l) (h12 : l.length ≠ 12) (hf : ¬ fileOk r (l ++ [s])) : ACd Try.prog 49 [.agg (roomC r).toArray, .slice (some ⟨lb, 0, none⟩) l.length c', .agg #[.int .i8 s.x, .int .i8 s.y]] H (.tuple #[.slice (some ⟨H.next, 0, none⟩) 0 0, .int .i64 4]) (H.push (.cells (fl spot []) 2)) := by
  have hh0 : Sl H spot 2 (.slice (some ⟨lb, 0, none⟩) l.length c') l := Sl.full spot_len hk0 rfl rfl rfl
  have hlt0 := AHeap.lt hk0
  have hvf := hv.2.1
  have hv1 := hvf.2.1
  have hv2 := hvf.2.2
  have hla : (l ++ [s]).length = l.length + 1 := by simp
  have hspa : wfSpots (l ++ [s]) := wfSpots_snoc hsp hs
  refine ac_gcs (vrl_fl spot_plain []) (ac_body Try.func49 rfl Try.ntmps49 rfl ?_)
  refine aw_seq ?_
  refine aw_region ?_
  refine al_opd rfl rfl rfl (ao_boxa (by rfl)) ?_
  refine al_opd rfl rfl rfl (ao_boxa (by rfl)) ?_
  refine al_opd rfl rfl rfl (ao_as (v := .slice _ _ _) rfl) ?_
  refine al_opd rfl rfl rfl (ao_as (v := .int _ _) rfl) ?_
  refine al_nilT ?_
  refine aw_seq ?_
  refine aw_seq ?_
  refine aw_region ?_
  refine al_opd rfl rfl rfl (ao_mv (v := .slice _ _ _) rfl) ?_
  refine al_opd rfl rfl rfl (ao_calld (l02Ok_c (l := l) (lb := lb) (c' := c') (r := r) (b := true) (by ((repeat (first | exact blk_push_new _ _ | assumption | apply blk_push_old | apply blk_set_same | refine (blk_set_ne (by first | assumption | omega | (simp only [next_push, next_set, next_kill, ne_eq]; omega))).trans ?_ | refine (blk_kill_ne (by first | assumption | omega | (simp only [next_push, next_set, next_kill, ne_eq]; omega))).trans ?_)); (first | done | fail))) (by ((repeat (first | exact blk_push_new _ _ | assumption | apply blk_push_old | apply blk_set_same | refine (blk_set_ne (by first | assumption | omega | (simp only [next_push, next_set, next_kill, ne_eq]; omega))).trans ?_ | refine (blk_kill_ne (by first | assumption | omega | (simp only [next_push, next_set, next_kill, ne_eq]; omega))).trans ?_)); (first | done | fail))) hcc' hn hw hsp (yes hv)) Try.call66 rfl rfl) ?_
  refine al_opd rfl rfl rfl (ao_not rfl) ?_
  refine al_nilT ?_
  refine aw_cond rfl (fun h1_ => ?_) (fun h1_ => ?_)
  · try simp only [decide_eq_true_eq, decide_eq_false_iff_not, Bool.not_eq_true', Bool.not_eq_false', Bool.and_eq_true, Bool.or_eq_true, Bool.and_eq_false_iff, Bool.or_eq_false_iff, beq_iff_eq, bne_iff_ne, beq_eq_false_iff_ne, bne_eq_false_iff_eq, ne_eq, Decidable.not_not, Bool.decide_eq_true] at h1_
    first | done | omega | (exfalso; revert h1_; simp; (first | done | omega))
  · try simp only [decide_eq_true_eq, decide_eq_false_iff_not, Bool.not_eq_true', Bool.not_eq_false', Bool.and_eq_true, Bool.or_eq_true, Bool.and_eq_false_iff, Bool.or_eq_false_iff, beq_iff_eq, bne_iff_ne, beq_eq_false_iff_ne, bne_eq_false_iff_eq, ne_eq, Decidable.not_not, Bool.decide_eq_true] at h1_
    refine aw_skipT ?_
    refine aw_seq ?_
    refine aw_seq ?_
    refine aw_region ?_
    refine al_opd rfl rfl rfl (ao_mv (v := .slice _ _ _) rfl) ?_
    first | refine al_opd rfl rfl rfl (ao_lenS Try.underlying26 (by rfl)) ?_ | refine al_opd rfl rfl rfl (ao_lenN Try.underlying26 (by rfl)) ?_
    refine al_opd rfl rfl rfl (ao_eql rfl rfl) ?_
    refine al_nilT ?_
    refine aw_cond rfl (fun h2_ => ?_) (fun h2_ => ?_)
    · try simp only [decide_eq_true_eq, decide_eq_false_iff_not, Bool.not_eq_true', Bool.not_eq_false', Bool.and_eq_true, Bool.or_eq_true, Bool.and_eq_false_iff, Bool.or_eq_false_iff, beq_iff_eq, bne_iff_ne, beq_eq_false_iff_ne, bne_eq_false_iff_eq, ne_eq, Decidable.not_not, Bool.decide_eq_true] at h2_
      first | done | omega | (exfalso; revert h2_; simp; (first | done | omega))
    · try simp only [decide_eq_true_eq, decide_eq_false_iff_not, Bool.not_eq_true', Bool.not_eq_false', Bool.and_eq_true, Bool.or_eq_true, Bool.and_eq_false_iff, Bool.or_eq_false_iff, beq_iff_eq, bne_iff_ne, beq_eq_false_iff_ne, bne_eq_false_iff_eq, ne_eq, Decidable.not_not, Bool.decide_eq_true] at h2_
      refine aw_skipT ?_
      refine aw_seq ?_
      refine aw_draw (m := 5) mo (by kernel_rfl) rfl (fun _ _ _ h => h) ?_
      refine dw_opn rfl rfl rfl (ao_lit0 Try.underlying26 Try.sizeOf63 Try.zeroValue63 (by rfl) (by rfl) rfl) ?_
      refine dw_opd rfl rfl rfl (ao_mv (v := .slice _ _ _) rfl) ?_
      refine dw_opn rfl rfl rfl (ao_appZ (m := l.length) (news := fl spot l) Try.underlying26 ⟨_, Try.underlying26⟩ elem63 (by rfl) (by rfl) ((hh0.mono (by (repeat (first | exact Same.refl _ _ | assumption | refine Same.push ?_ (by (first | exact Nat.le_refl _ | omega | (simp only [next_push, next_set, next_kill]; omega))) _ | refine Same.set ?_ (by (first | exact Nat.le_refl _ | omega | (simp only [next_push, next_set, next_kill]; omega))) _ | refine Same.kill ?_ (by (first | exact Nat.le_refl _ | omega | (simp only [next_push, next_set, next_kill]; omega))))))).src spot_len (by decide)) (by omega) (by omega) (by omega)) ?_
      refine dw_opd rfl rfl rfl (ao_loada Try.isAgg63 Try.sizeOf63 rfl (by ((repeat (first | exact blk_push_new _ _ | assumption | apply blk_push_old | apply blk_set_same | refine (blk_set_ne (by first | assumption | omega | (simp only [next_push, next_set, next_kill, ne_eq]; omega))).trans ?_ | refine (blk_kill_ne (by first | assumption | omega | (simp only [next_push, next_set, next_kill, ne_eq]; omega))).trans ?_)); (first | done | fail))) (by rfl) (by first | rfl | (simp; (first | done | fail)))) ?_
      refine dw_opn rfl rfl rfl (ao_lit1 (v := .agg _) Try.underlying26 Try.sizeOf63 Try.zeroValue63 (by rfl) (by rfl) rfl rfl (by rfl) (by first | rfl | (simp; (first | done | fail)))) ?_
      refine dw_end ?_
      refine al_opd rfl rfl rfl (ao_appC Try.underlying26 ⟨_, Try.underlying26⟩ elem63 (by rfl) (by rfl) (by ((repeat (first | exact blk_push_new _ _ | assumption | apply blk_push_old | apply blk_set_same | refine (blk_set_ne (by first | assumption | omega | (simp only [next_push, next_set, next_kill, ne_eq]; omega))).trans ?_ | refine (blk_kill_ne (by first | assumption | omega | (simp only [next_push, next_set, next_kill, ne_eq]; omega))).trans ?_)); (first | done | fail))) (by (rw [fl_len spot_len]; omega)) (by first | exact src_all (by ((repeat (first | exact blk_push_new _ _ | assumption | apply blk_push_old | apply blk_set_same | refine (blk_set_ne (by first | assumption | omega | (simp only [next_push, next_set, next_kill, ne_eq]; omega))).trans ?_ | refine (blk_kill_ne (by first | assumption | omega | (simp only [next_push, next_set, next_kill, ne_eq]; omega))).trans ?_)); (first | done | fail))) (by rfl) (by rfl) | exact src_all (by ((repeat (first | exact blk_push_new _ _ | assumption | apply blk_push_old | apply blk_set_same | refine (blk_set_ne (by first | assumption | omega | (simp only [next_push, next_set, next_kill, ne_eq]; omega))).trans ?_ | refine (blk_kill_ne (by first | assumption | omega | (simp only [next_push, next_set, next_kill, ne_eq]; omega))).trans ?_)); (first | done | fail))) (by rfl) (by simp)) (by first | rfl | simp [isOne]) (by first | omega | decide) (by first | omega | decide)) ?_
      refine al_opd rfl rfl rfl (ao_as (v := .slice _ _ _) rfl) ?_
      refine al_nilT ?_
      refine aw_seq ?_
      refine aw_seq ?_
      refine aw_region ?_
      refine al_opd rfl rfl rfl (ao_mv (v := .slice _ _ _) rfl) ?_
      refine al_opd rfl rfl rfl (ao_calld (l02FileN_c (l := (l ++ [s])) (r := r) (b := false) (by ((repeat (first | exact blk_push_new _ _ | assumption | apply blk_push_old | apply blk_set_same | refine (blk_set_ne (by first | assumption | omega | (simp only [next_push, next_set, next_kill, ne_eq]; omega))).trans ?_ | refine (blk_kill_ne (by first | assumption | omega | (simp only [next_push, next_set, next_kill, ne_eq]; omega))).trans ?_)); (first | done | fail))) (by ((repeat (first | exact blk_push_new _ _ | assumption | apply blk_push_old | apply blk_set_same | refine (blk_set_ne (by first | assumption | omega | (simp only [next_push, next_set, next_kill, ne_eq]; omega))).trans ?_ | refine (blk_kill_ne (by first | assumption | omega | (simp only [next_push, next_set, next_kill, ne_eq]; omega))).trans ?_)); (first | done | fail))) (by rw [fl_snoc]; rfl) (by simp) (by omega) (by omega) hv.1 hw hspa (no hf)) Try.call85 rfl rfl) ?_
      refine al_opd rfl rfl rfl (ao_not rfl) ?_
      refine al_nilT ?_
      refine aw_cond rfl (fun h3_ => ?_) (fun h3_ => ?_)
      · try simp only [decide_eq_true_eq, decide_eq_false_iff_not, Bool.not_eq_true', Bool.not_eq_false', Bool.and_eq_true, Bool.or_eq_true, Bool.and_eq_false_iff, Bool.or_eq_false_iff, beq_iff_eq, bne_iff_ne, beq_eq_false_iff_ne, bne_eq_false_iff_eq, ne_eq, Decidable.not_not, Bool.decide_eq_true] at h3_
        refine aw_seq ?_
        refine aw_region ?_
        refine al_opd rfl rfl rfl (ao_lit0 Try.underlying26 Try.sizeOf63 Try.zeroValue63 (by rfl) (by rfl) rfl) ?_
        refine al_opd rfl rfl rfl (ao_as (v := .slice _ _ _) rfl) ?_
        refine al_opd rfl rfl rfl (ao_as (v := .int _ _) rfl) ?_
        refine al_nilT ?_
        refine aw_ret ?_
        refine thenA_r ?_
        refine ends2 rfl (rv_tmp (v := .slice _ _ _) rfl) (rv_tmp (v := .int _ _) rfl) ?_
        exact ⟨by (repeat (first | exact Same.refl _ _ | assumption | refine Same.push ?_ (by (first | exact Nat.le_refl _ | omega | (simp only [next_push, next_set, next_kill]; omega))) _ | refine Same.set ?_ (by (first | exact Nat.le_refl _ | omega | (simp only [next_push, next_set, next_kill]; omega))) _ | refine Same.kill ?_ (by (first | exact Nat.le_refl _ | omega | (simp only [next_push, next_set, next_kill]; omega))))), _, by (first | exact Nat.le_refl _ | omega | (simp only [next_push, next_set, next_kill]; omega)), by ((repeat (first | exact blk_push_new _ _ | assumption | apply blk_push_old | apply blk_set_same | refine (blk_set_ne (by first | assumption | omega | (simp only [next_push, next_set, next_kill, ne_eq]; omega))).trans ?_ | refine (blk_kill_ne (by first | assumption | omega | (simp only [next_push, next_set, next_kill, ne_eq]; omega))).trans ?_)); (first | done | fail)), fun ρ h => vr_tup2 (vr_sl h (by omega) (by omega)) (.int _ _)⟩
      · try simp only [decide_eq_true_eq, decide_eq_false_iff_not, Bool.not_eq_true', Bool.not_eq_false', Bool.and_eq_true, Bool.or_eq_true, Bool.and_eq_false_iff, Bool.or_eq_false_iff, beq_iff_eq, bne_iff_ne, beq_eq_false_iff_ne, bne_eq_false_iff_eq, ne_eq, Decidable.not_not, Bool.decide_eq_true] at h3_
        first | done | omega | (exfalso; revert h3_; simp; (first | done | omega))

-- impl.AddPerson
theorem implAdd1_c {l : List Spot} {lb c' : Nat} {r : Room} {s : Spot} {H : AHeap} (hk0 : H.blk lb = some (.cells (fl spot l) 2)) (hcc' : l.length ≤ c') (hn : l.length ≤ 4194304) (hw : wfRoom r) (hsp : wfSpots l) (hs : wfSpot s) (hv : okFile r l) (h12 : l.length ≠ 12) (hf : fileOk r (l ++ [s])) : ACd Try.prog 51 [.agg (roomC r).toArray, .slice (some ⟨lb, 0, none⟩) l.length c', .agg #[.int .i8 s.x, .int .i8 s.y]] H (.tuple #[.slice (some ⟨H.next, 0, none⟩) (l ++ [s]).length ((l ++ [s]).length + 1), .int .i64 0]) (H.push (.cells (fl spot (l ++ [s])) 2)) := by
  have hh0 : Sl H spot 2 (.slice (some ⟨lb, 0, none⟩) l.length c') l := Sl.full spot_len hk0 rfl rfl rfl
  have hlt0 := AHeap.lt hk0
  have hvf := hv.2.1
  have hv1 := hvf.2.1
  have hv2 := hvf.2.2
  have hla : (l ++ [s]).length = l.length + 1 := by simp
  have hspa : wfSpots (l ++ [s]) := wfSpots_snoc hsp hs
  refine ac_gcs (vrl_fl spot_plain _) (ac_body Try.func51 rfl Try.ntmps51 rfl ?_)
  refine aw_seq ?_
  refine aw_region ?_
  refine al_opd rfl rfl rfl (ao_boxa (by rfl)) ?_
  refine al_opd rfl rfl rfl (ao_boxa (by rfl)) ?_
  refine al_opd rfl rfl rfl (ao_as (v := .slice _ _ _) rfl) ?_
  refine al_opd rfl rfl rfl (ao_as (v := .int _ _) rfl) ?_
  refine al_nilT ?_
  refine aw_seq ?_
  refine aw_block ?_
  refine aw_seq ?_
  refine aw_region ?_
  refine al_opd rfl rfl rfl (ao_loada Try.isAgg44 Try.sizeOf44 rfl (by ((repeat (first | exact blk_push_new _ _ | assumption | apply blk_push_old | apply blk_set_same | refine (blk_set_ne (by first | assumption | omega | (simp only [next_push, next_set, next_kill, ne_eq]; omega))).trans ?_ | refine (blk_kill_ne (by first | assumption | omega | (simp only [next_push, next_set, next_kill, ne_eq]; omega))).trans ?_)); (first | done | fail))) (by rfl) (by first | rfl | (simp; (first | done | fail)))) ?_
  refine al_opd rfl rfl rfl (ao_mv (v := .slice _ _ _) rfl) ?_
  refine al_opd rfl rfl rfl (ao_calld (implValidFile_c (l := l) (lb := lb) (c' := c') (r := r) (b := true) (by ((repeat (first | exact blk_push_new _ _ | assumption | apply blk_push_old | apply blk_set_same | refine (blk_set_ne (by first | assumption | omega | (simp only [next_push, next_set, next_kill, ne_eq]; omega))).trans ?_ | refine (blk_kill_ne (by first | assumption | omega | (simp only [next_push, next_set, next_kill, ne_eq]; omega))).trans ?_)); (first | done | fail))) hcc' hn hw hsp (yes hv)) Try.call32 rfl rfl) ?_
  refine al_opd rfl rfl rfl (ao_not rfl) ?_
  refine al_opd rfl rfl rfl (ao_as (v := .bool _) rfl) ?_
  refine al_nilT ?_
  refine aw_cond rfl (fun h1_ => ?_) (fun h1_ => ?_)
  · try simp only [decide_eq_true_eq, decide_eq_false_iff_not, Bool.not_eq_true', Bool.not_eq_false', Bool.and_eq_true, Bool.or_eq_true, Bool.and_eq_false_iff, Bool.or_eq_false_iff, beq_iff_eq, bne_iff_ne, beq_eq_false_iff_ne, bne_eq_false_iff_eq, ne_eq, Decidable.not_not, Bool.decide_eq_true] at h1_
    first | done | omega | (exfalso; revert h1_; simp; (first | done | omega))
  · try simp only [decide_eq_true_eq, decide_eq_false_iff_not, Bool.not_eq_true', Bool.not_eq_false', Bool.and_eq_true, Bool.or_eq_true, Bool.and_eq_false_iff, Bool.or_eq_false_iff, beq_iff_eq, bne_iff_ne, beq_eq_false_iff_ne, bne_eq_false_iff_eq, ne_eq, Decidable.not_not, Bool.decide_eq_true] at h1_
    refine aw_seq ?_
    refine aw_region ?_
    refine al_opd rfl rfl rfl (ao_mv (v := .slice _ _ _) rfl) ?_
    first | refine al_opd rfl rfl rfl (ao_lenS Try.underlying26 (by rfl)) ?_ | refine al_opd rfl rfl rfl (ao_lenN Try.underlying26 (by rfl)) ?_
    refine al_opd rfl rfl rfl (ao_eql rfl rfl) ?_
    refine al_opd rfl rfl rfl (ao_as (v := .bool _) rfl) ?_
    refine al_nilT ?_
    refine aw_cond rfl (fun h2_ => ?_) (fun h2_ => ?_)
    · try simp only [decide_eq_true_eq, decide_eq_false_iff_not, Bool.not_eq_true', Bool.not_eq_false', Bool.and_eq_true, Bool.or_eq_true, Bool.and_eq_false_iff, Bool.or_eq_false_iff, beq_iff_eq, bne_iff_ne, beq_eq_false_iff_ne, bne_eq_false_iff_eq, ne_eq, Decidable.not_not, Bool.decide_eq_true] at h2_
      first | done | omega | (exfalso; revert h2_; simp; (first | done | omega))
    · try simp only [decide_eq_true_eq, decide_eq_false_iff_not, Bool.not_eq_true', Bool.not_eq_false', Bool.and_eq_true, Bool.or_eq_true, Bool.and_eq_false_iff, Bool.or_eq_false_iff, beq_iff_eq, bne_iff_ne, beq_eq_false_iff_ne, bne_eq_false_iff_eq, ne_eq, Decidable.not_not, Bool.decide_eq_true] at h2_
      refine aw_skipB ?_
      refine thenA_n ?_
      refine aw_seq ?_
      refine aw_draw (m := 4) mo (by kernel_rfl) rfl (fun _ _ _ h => h) ?_
      refine dw_opd rfl rfl rfl (ao_mv (v := .slice _ _ _) rfl) ?_
      refine dw_opn rfl rfl rfl (ao_calld (cloneF_c (H := (H.push (.cells (roomC r) 1)).push (.cells [.int .i8 s.x, .int .i8 s.y] 1)) (l := l) (pb := lb) (o := 0) (c := c') (hh0.mono (by (repeat (first | exact Same.refl _ _ | assumption | refine Same.push ?_ (by (first | exact Nat.le_refl _ | omega | (simp only [next_push, next_set, next_kill]; omega))) _ | refine Same.set ?_ (by (first | exact Nat.le_refl _ | omega | (simp only [next_push, next_set, next_kill]; omega))) _ | refine Same.kill ?_ (by (first | exact Nat.le_refl _ | omega | (simp only [next_push, next_set, next_kill]; omega))))))) (by omega)) Try.call79 rfl rfl) ?_
      refine dw_opd rfl rfl rfl (ao_loada Try.isAgg63 Try.sizeOf63 rfl (by ((repeat (first | exact blk_push_new _ _ | assumption | apply blk_push_old | apply blk_set_same | refine (blk_set_ne (by first | assumption | omega | (simp only [next_push, next_set, next_kill, ne_eq]; omega))).trans ?_ | refine (blk_kill_ne (by first | assumption | omega | (simp only [next_push, next_set, next_kill, ne_eq]; omega))).trans ?_)); (first | done | fail))) (by rfl) (by first | rfl | (simp; (first | done | fail)))) ?_
      refine dw_opn rfl rfl rfl (ao_lit1 (v := .agg _) Try.underlying26 Try.sizeOf63 Try.zeroValue63 (by rfl) (by rfl) rfl rfl (by rfl) (by first | rfl | (simp; (first | done | fail)))) ?_
      refine dw_end ?_
      refine al_opd rfl rfl rfl (ao_appC Try.underlying26 ⟨_, Try.underlying26⟩ elem63 (by rfl) (by rfl) (by ((repeat (first | exact blk_push_new _ _ | assumption | apply blk_push_old | apply blk_set_same | refine (blk_set_ne (by first | assumption | omega | (simp only [next_push, next_set, next_kill, ne_eq]; omega))).trans ?_ | refine (blk_kill_ne (by first | assumption | omega | (simp only [next_push, next_set, next_kill, ne_eq]; omega))).trans ?_)); (first | done | fail))) (by (rw [fl_len spot_len]; omega)) (by first | exact src_all (by ((repeat (first | exact blk_push_new _ _ | assumption | apply blk_push_old | apply blk_set_same | refine (blk_set_ne (by first | assumption | omega | (simp only [next_push, next_set, next_kill, ne_eq]; omega))).trans ?_ | refine (blk_kill_ne (by first | assumption | omega | (simp only [next_push, next_set, next_kill, ne_eq]; omega))).trans ?_)); (first | done | fail))) (by rfl) (by rfl) | exact src_all (by ((repeat (first | exact blk_push_new _ _ | assumption | apply blk_push_old | apply blk_set_same | refine (blk_set_ne (by first | assumption | omega | (simp only [next_push, next_set, next_kill, ne_eq]; omega))).trans ?_ | refine (blk_kill_ne (by first | assumption | omega | (simp only [next_push, next_set, next_kill, ne_eq]; omega))).trans ?_)); (first | done | fail))) (by rfl) (by simp)) (by first | rfl | simp [isOne]) (by first | omega | decide) (by first | omega | decide)) ?_
      refine al_opd rfl rfl rfl (ao_as (v := .slice _ _ _) rfl) ?_
      refine al_nilT ?_
      refine aw_seq ?_
      refine aw_seq ?_
      refine aw_region ?_
      refine al_opd rfl rfl rfl (ao_mv (v := .slice _ _ _) rfl) ?_
      refine al_opd rfl rfl rfl (ao_loada Try.isAgg44 Try.sizeOf44 rfl (by ((repeat (first | exact blk_push_new _ _ | assumption | apply blk_push_old | apply blk_set_same | refine (blk_set_ne (by first | assumption | omega | (simp only [next_push, next_set, next_kill, ne_eq]; omega))).trans ?_ | refine (blk_kill_ne (by first | assumption | omega | (simp only [next_push, next_set, next_kill, ne_eq]; omega))).trans ?_)); (first | done | fail))) (by rfl) (by first | rfl | (simp; (first | done | fail)))) ?_
      refine al_opd rfl rfl rfl (ao_calld (isFileN_c (l := (l ++ [s])) (r := r) (b := true) (by ((repeat (first | exact blk_push_new _ _ | assumption | apply blk_push_old | apply blk_set_same | refine (blk_set_ne (by first | assumption | omega | (simp only [next_push, next_set, next_kill, ne_eq]; omega))).trans ?_ | refine (blk_kill_ne (by first | assumption | omega | (simp only [next_push, next_set, next_kill, ne_eq]; omega))).trans ?_)); (first | done | fail))) (by rw [fl_snoc]; rfl) (by simp) (by omega) (by omega) hw hspa (yes hf)) Try.call69 rfl rfl) ?_
      refine al_opd rfl rfl rfl (ao_not rfl) ?_
      refine al_nilT ?_
      refine aw_cond rfl (fun h3_ => ?_) (fun h3_ => ?_)
      · try simp only [decide_eq_true_eq, decide_eq_false_iff_not, Bool.not_eq_true', Bool.not_eq_false', Bool.and_eq_true, Bool.or_eq_true, Bool.and_eq_false_iff, Bool.or_eq_false_iff, beq_iff_eq, bne_iff_ne, beq_eq_false_iff_ne, bne_eq_false_iff_eq, ne_eq, Decidable.not_not, Bool.decide_eq_true] at h3_
        first | done | omega | (exfalso; revert h3_; simp; (first | done | omega))
      · try simp only [decide_eq_true_eq, decide_eq_false_iff_not, Bool.not_eq_true', Bool.not_eq_false', Bool.and_eq_true, Bool.or_eq_true, Bool.and_eq_false_iff, Bool.or_eq_false_iff, beq_iff_eq, bne_iff_ne, beq_eq_false_iff_ne, bne_eq_false_iff_eq, ne_eq, Decidable.not_not, Bool.decide_eq_true] at h3_
        refine aw_skipT ?_
        refine aw_seq ?_
        refine aw_region ?_
        refine al_opd rfl rfl rfl (ao_mv (v := .slice _ _ _) rfl) ?_
        refine al_opd rfl rfl rfl (ao_as (v := .slice _ _ _) rfl) ?_
        refine al_opd rfl rfl rfl (ao_as (v := .int _ _) rfl) ?_
        refine al_nilT ?_
        refine aw_ret ?_
        refine ends2 rfl (rv_tmp (v := .slice _ _ _) rfl) (rv_tmp (v := .int _ _) rfl) ?_
        exact ⟨by (repeat (first | exact Same.refl _ _ | assumption | refine Same.push ?_ (by (first | exact Nat.le_refl _ | omega | (simp only [next_push, next_set, next_kill]; omega))) _ | refine Same.set ?_ (by (first | exact Nat.le_refl _ | omega | (simp only [next_push, next_set, next_kill]; omega))) _ | refine Same.kill ?_ (by (first | exact Nat.le_refl _ | omega | (simp only [next_push, next_set, next_kill]; omega))))), H.next + 4, by (first | exact Nat.le_refl _ | omega | (simp only [next_push, next_set, next_kill]; omega)), by rw [fl_snoc]; exact (by ((repeat (first | exact blk_push_new _ _ | assumption | apply blk_push_old | apply blk_set_same | refine (blk_set_ne (by first | assumption | omega | (simp only [next_push, next_set, next_kill, ne_eq]; omega))).trans ?_ | refine (blk_kill_ne (by first | assumption | omega | (simp only [next_push, next_set, next_kill, ne_eq]; omega))).trans ?_)); (first | done | fail))), fun ρ h => vr_tup2 (by rw [hla]; exact vr_sl h (by omega) (by omega)) (.int _ _)⟩

-- impl.AddPerson
theorem implAdd4_c {l : List Spot} {lb c' : Nat} {r : Room} {s : Spot} {H : AHeap} (hk0 : H.blk lb = some (.cells (fl spot l) 2)) (hcc' : l.length ≤ c') (hn : l.length ≤ 4194304) (hw : wfRoom r) (hsp : wfSpots l) (hs : wfSpot s) (hv : okFile r l) (h12 : l.length ≠ 12) (hf : ¬ fileOk r (l ++ [s])) : ACd Try.prog 51 [.agg (roomC r).toArray, .slice (some ⟨lb, 0, none⟩) l.length c', .agg #[.int .i8 s.x, .int .i8 s.y]] H (.tuple #[.slice none 0 0, .int .i64 4]) (H) := by
  have hh0 : Sl H spot 2 (.slice (some ⟨lb, 0, none⟩) l.length c') l := Sl.full spot_len hk0 rfl rfl rfl
  have hlt0 := AHeap.lt hk0
  have hvf := hv.2.1
  have hv1 := hvf.2.1
  have hv2 := hvf.2.2
  have hla : (l ++ [s]).length = l.length + 1 := by simp
  have hspa : wfSpots (l ++ [s]) := wfSpots_snoc hsp hs
  refine ac_gc0 (fun β => VR.plainT β (by first | rfl | simp [plainT, plainV, plain1])) (ac_body Try.func51 rfl Try.ntmps51 rfl ?_)
  refine aw_seq ?_
  refine aw_region ?_
  refine al_opd rfl rfl rfl (ao_boxa (by rfl)) ?_
  refine al_opd rfl rfl rfl (ao_boxa (by rfl)) ?_
  refine al_opd rfl rfl rfl (ao_as (v := .slice _ _ _) rfl) ?_
  refine al_opd rfl rfl rfl (ao_as (v := .int _ _) rfl) ?_
  refine al_nilT ?_
  refine aw_seq ?_
  refine aw_block ?_
  refine aw_seq ?_
  refine aw_region ?_
  refine al_opd rfl rfl rfl (ao_loada Try.isAgg44 Try.sizeOf44 rfl (by ((repeat (first | exact blk_push_new _ _ | assumption | apply blk_push_old | apply blk_set_same | refine (blk_set_ne (by first | assumption | omega | (simp only [next_push, next_set, next_kill, ne_eq]; omega))).trans ?_ | refine (blk_kill_ne (by first | assumption | omega | (simp only [next_push, next_set, next_kill, ne_eq]; omega))).trans ?_)); (first | done | fail))) (by rfl) (by first | rfl | (simp; (first | done | fail)))) ?_
  refine al_opd rfl rfl rfl (ao_mv (v := .slice _ _ _) rfl) ?_
  refine al_opd rfl rfl rfl (ao_calld (implValidFile_c (l := l) (lb := lb) (c' := c') (r := r) (b := true) (by ((repeat (first | exact blk_push_new _ _ | assumption | apply blk_push_old | apply blk_set_same | refine (blk_set_ne (by first | assumption | omega | (simp only [next_push, next_set, next_kill, ne_eq]; omega))).trans ?_ | refine (blk_kill_ne (by first | assumption | omega | (simp only [next_push, next_set, next_kill, ne_eq]; omega))).trans ?_)); (first | done | fail))) hcc' hn hw hsp (yes hv)) Try.call32 rfl rfl) ?_
  refine al_opd rfl rfl rfl (ao_not rfl) ?_
  refine al_opd rfl rfl rfl (ao_as (v := .bool _) rfl) ?_
  refine al_nilT ?_
  refine aw_cond rfl (fun h1_ => ?_) (fun h1_ => ?_)
  · try simp only [decide_eq_true_eq, decide_eq_false_iff_not, Bool.not_eq_true', Bool.not_eq_false', Bool.and_eq_true, Bool.or_eq_true, Bool.and_eq_false_iff, Bool.or_eq_false_iff, beq_iff_eq, bne_iff_ne, beq_eq_false_iff_ne, bne_eq_false_iff_eq, ne_eq, Decidable.not_not, Bool.decide_eq_true] at h1_
    first | done | omega | (exfalso; revert h1_; simp; (first | done | omega))
  · try simp only [decide_eq_true_eq, decide_eq_false_iff_not, Bool.not_eq_true', Bool.not_eq_false', Bool.and_eq_true, Bool.or_eq_true, Bool.and_eq_false_iff, Bool.or_eq_false_iff, beq_iff_eq, bne_iff_ne, beq_eq_false_iff_ne, bne_eq_false_iff_eq, ne_eq, Decidable.not_not, Bool.decide_eq_true] at h1_
    refine aw_seq ?_
    refine aw_region ?_
    refine al_opd rfl rfl rfl (ao_mv (v := .slice _ _ _) rfl) ?_
    first | refine al_opd rfl rfl rfl (ao_lenS Try.underlying26 (by rfl)) ?_ | refine al_opd rfl rfl rfl (ao_lenN Try.underlying26 (by rfl)) ?_
    refine al_opd rfl rfl rfl (ao_eql rfl rfl) ?_
    refine al_opd rfl rfl rfl (ao_as (v := .bool _) rfl) ?_
    refine al_nilT ?_
    refine aw_cond rfl (fun h2_ => ?_) (fun h2_ => ?_)
    · try simp only [decide_eq_true_eq, decide_eq_false_iff_not, Bool.not_eq_true', Bool.not_eq_false', Bool.and_eq_true, Bool.or_eq_true, Bool.and_eq_false_iff, Bool.or_eq_false_iff, beq_iff_eq, bne_iff_ne, beq_eq_false_iff_ne, bne_eq_false_iff_eq, ne_eq, Decidable.not_not, Bool.decide_eq_true] at h2_
      first | done | omega | (exfalso; revert h2_; simp; (first | done | omega))
    · try simp only [decide_eq_true_eq, decide_eq_false_iff_not, Bool.not_eq_true', Bool.not_eq_false', Bool.and_eq_true, Bool.or_eq_true, Bool.and_eq_false_iff, Bool.or_eq_false_iff, beq_iff_eq, bne_iff_ne, beq_eq_false_iff_ne, bne_eq_false_iff_eq, ne_eq, Decidable.not_not, Bool.decide_eq_true] at h2_
      refine aw_skipB ?_
      refine thenA_n ?_
      refine aw_seq ?_
      refine aw_draw (m := 4) mo (by kernel_rfl) rfl (fun _ _ _ h => h) ?_
      refine dw_opd rfl rfl rfl (ao_mv (v := .slice _ _ _) rfl) ?_
      refine dw_opn rfl rfl rfl (ao_calld (cloneF_c (H := (H.push (.cells (roomC r) 1)).push (.cells [.int .i8 s.x, .int .i8 s.y] 1)) (l := l) (pb := lb) (o := 0) (c := c') (hh0.mono (by (repeat (first | exact Same.refl _ _ | assumption | refine Same.push ?_ (by (first | exact Nat.le_refl _ | omega | (simp only [next_push, next_set, next_kill]; omega))) _ | refine Same.set ?_ (by (first | exact Nat.le_refl _ | omega | (simp only [next_push, next_set, next_kill]; omega))) _ | refine Same.kill ?_ (by (first | exact Nat.le_refl _ | omega | (simp only [next_push, next_set, next_kill]; omega))))))) (by omega)) Try.call79 rfl rfl) ?_
      refine dw_opd rfl rfl rfl (ao_loada Try.isAgg63 Try.sizeOf63 rfl (by ((repeat (first | exact blk_push_new _ _ | assumption | apply blk_push_old | apply blk_set_same | refine (blk_set_ne (by first | assumption | omega | (simp only [next_push, next_set, next_kill, ne_eq]; omega))).trans ?_ | refine (blk_kill_ne (by first | assumption | omega | (simp only [next_push, next_set, next_kill, ne_eq]; omega))).trans ?_)); (first | done | fail))) (by rfl) (by first | rfl | (simp; (first | done | fail)))) ?_
      refine dw_opn rfl rfl rfl (ao_lit1 (v := .agg _) Try.underlying26 Try.sizeOf63 Try.zeroValue63 (by rfl) (by rfl) rfl rfl (by rfl) (by first | rfl | (simp; (first | done | fail)))) ?_
      refine dw_end ?_
      refine al_opd rfl rfl rfl (ao_appC Try.underlying26 ⟨_, Try.underlying26⟩ elem63 (by rfl) (by rfl) (by ((repeat (first | exact blk_push_new _ _ | assumption | apply blk_push_old | apply blk_set_same | refine (blk_set_ne (by first | assumption | omega | (simp only [next_push, next_set, next_kill, ne_eq]; omega))).trans ?_ | refine (blk_kill_ne (by first | assumption | omega | (simp only [next_push, next_set, next_kill, ne_eq]; omega))).trans ?_)); (first | done | fail))) (by (rw [fl_len spot_len]; omega)) (by first | exact src_all (by ((repeat (first | exact blk_push_new _ _ | assumption | apply blk_push_old | apply blk_set_same | refine (blk_set_ne (by first | assumption | omega | (simp only [next_push, next_set, next_kill, ne_eq]; omega))).trans ?_ | refine (blk_kill_ne (by first | assumption | omega | (simp only [next_push, next_set, next_kill, ne_eq]; omega))).trans ?_)); (first | done | fail))) (by rfl) (by rfl) | exact src_all (by ((repeat (first | exact blk_push_new _ _ | assumption | apply blk_push_old | apply blk_set_same | refine (blk_set_ne (by first | assumption | omega | (simp only [next_push, next_set, next_kill, ne_eq]; omega))).trans ?_ | refine (blk_kill_ne (by first | assumption | omega | (simp only [next_push, next_set, next_kill, ne_eq]; omega))).trans ?_)); (first | done | fail))) (by rfl) (by simp)) (by first | rfl | simp [isOne]) (by first | omega | decide) (by first | omega | decide)) ?_
      refine al_opd rfl rfl rfl (ao_as (v := .slice _ _ _) rfl) ?_
      refine al_nilT ?_
      refine aw_seq ?_
      refine aw_seq ?_
      refine aw_region ?_
      refine al_opd rfl rfl rfl (ao_mv (v := .slice _ _ _) rfl) ?_
      refine al_opd rfl rfl rfl (ao_loada Try.isAgg44 Try.sizeOf44 rfl (by ((repeat (first | exact blk_push_new _ _ | assumption | apply blk_push_old | apply blk_set_same | refine (blk_set_ne (by first | assumption | omega | (simp only [next_push, next_set, next_kill, ne_eq]; omega))).trans ?_ | refine (blk_kill_ne (by first | assumption | omega | (simp only [next_push, next_set, next_kill, ne_eq]; omega))).trans ?_)); (first | done | fail))) (by rfl) (by first | rfl | (simp; (first | done | fail)))) ?_
      refine al_opd rfl rfl rfl (ao_calld (isFileN_c (l := (l ++ [s])) (r := r) (b := false) (by ((repeat (first | exact blk_push_new _ _ | assumption | apply blk_push_old | apply blk_set_same | refine (blk_set_ne (by first | assumption | omega | (simp only [next_push, next_set, next_kill, ne_eq]; omega))).trans ?_ | refine (blk_kill_ne (by first | assumption | omega | (simp only [next_push, next_set, next_kill, ne_eq]; omega))).trans ?_)); (first | done | fail))) (by rw [fl_snoc]; rfl) (by simp) (by omega) (by omega) hw hspa (no hf)) Try.call69 rfl rfl) ?_
      refine al_opd rfl rfl rfl (ao_not rfl) ?_
      refine al_nilT ?_
      refine aw_cond rfl (fun h3_ => ?_) (fun h3_ => ?_)
      · try simp only [decide_eq_true_eq, decide_eq_false_iff_not, Bool.not_eq_true', Bool.not_eq_false', Bool.and_eq_true, Bool.or_eq_true, Bool.and_eq_false_iff, Bool.or_eq_false_iff, beq_iff_eq, bne_iff_ne, beq_eq_false_iff_ne, bne_eq_false_iff_eq, ne_eq, Decidable.not_not, Bool.decide_eq_true] at h3_
        refine aw_seq ?_
        refine aw_region ?_
        refine al_opd rfl rfl rfl (ao_as (v := .slice _ _ _) rfl) ?_
        refine al_opd rfl rfl rfl (ao_as (v := .int _ _) rfl) ?_
        refine al_nilT ?_
        refine aw_ret ?_
        refine thenA_r ?_
        refine ends2 rfl (rv_tmp (v := .slice _ _ _) rfl) (rv_tmp (v := .int _ _) rfl) ?_
        exact ⟨by first | rfl | (simp [*]; (first | done | fail)), by (repeat (first | exact Same.refl _ _ | assumption | refine Same.push ?_ (by (first | exact Nat.le_refl _ | omega | (simp only [next_push, next_set, next_kill]; omega))) _ | refine Same.set ?_ (by (first | exact Nat.le_refl _ | omega | (simp only [next_push, next_set, next_kill]; omega))) _ | refine Same.kill ?_ (by (first | exact Nat.le_refl _ | omega | (simp only [next_push, next_set, next_kill]; omega)))))⟩
      · try simp only [decide_eq_true_eq, decide_eq_false_iff_not, Bool.not_eq_true', Bool.not_eq_false', Bool.and_eq_true, Bool.or_eq_true, Bool.and_eq_false_iff, Bool.or_eq_false_iff, beq_iff_eq, bne_iff_ne, beq_eq_false_iff_ne, bne_eq_false_iff_eq, ne_eq, Decidable.not_not, Bool.decide_eq_true] at h3_
        first | done | omega | (exfalso; revert h3_; simp; (first | done | omega))

-- spec.AddPerson
theorem specAdd3_c {l : List Spot} {lb c' : Nat} {r : Room} {s : Spot} {H : AHeap} (hk0 : H.blk lb = some (.cells (fl spot l) 2)) (hcc' : l.length ≤ c') (hn : l.length ≤ 4194304) (hw : wfRoom r) (hsp : wfSpots l) (hs : wfSpot s) (hv : okFile r l) (h12 : l.length = 12) : ACd Try.prog 49 [.agg (roomC r).toArray, .slice (some ⟨lb, 0, none⟩) l.length c', .agg #[.int .i8 s.x, .int .i8 s.y]] H (.tuple #[.slice (some ⟨H.next, 0, none⟩) 0 0, .int .i64 3]) (H.push (.cells (fl spot []) 2)) := by
  have hh0 : Sl H spot 2 (.slice (some ⟨lb, 0, none⟩) l.length c') l := Sl.full spot_len hk0 rfl rfl rfl
  have hlt0 := AHeap.lt hk0
  refine ac_gcs (vrl_fl spot_plain []) (ac_body Try.func49 rfl Try.ntmps49 rfl ?_)
  refine aw_seq ?_
  refine aw_region ?_
  refine al_opd rfl rfl rfl (ao_boxa (by rfl)) ?_
  refine al_opd rfl rfl rfl (ao_boxa (by rfl)) ?_
  refine al_opd rfl rfl rfl (ao_as (v := .slice _ _ _) rfl) ?_
  refine al_opd rfl rfl rfl (ao_as (v := .int _ _) rfl) ?_
  refine al_nilT ?_
  refine aw_seq ?_
  refine aw_seq ?_
  refine aw_region ?_
  refine al_opd rfl rfl rfl (ao_mv (v := .slice _ _ _) rfl) ?_
  refine al_opd rfl rfl rfl (ao_calld (l02Ok_c (l := l) (lb := lb) (c' := c') (r := r) (b := true) (by ((repeat (first | exact blk_push_new _ _ | assumption | apply blk_push_old | apply blk_set_same | refine (blk_set_ne (by first | assumption | omega | (simp only [next_push, next_set, next_kill, ne_eq]; omega))).trans ?_ | refine (blk_kill_ne (by first | assumption | omega | (simp only [next_push, next_set, next_kill, ne_eq]; omega))).trans ?_)); (first | done | fail))) (by ((repeat (first | exact blk_push_new _ _ | assumption | apply blk_push_old | apply blk_set_same | refine (blk_set_ne (by first | assumption | omega | (simp only [next_push, next_set, next_kill, ne_eq]; omega))).trans ?_ | refine (blk_kill_ne (by first | assumption | omega | (simp only [next_push, next_set, next_kill, ne_eq]; omega))).trans ?_)); (first | done | fail))) hcc' hn hw hsp (yes hv)) Try.call66 rfl rfl) ?_
  refine al_opd rfl rfl rfl (ao_not rfl) ?_
  refine al_nilT ?_
  refine aw_cond rfl (fun h1_ => ?_) (fun h1_ => ?_)
  · try simp only [decide_eq_true_eq, decide_eq_false_iff_not, Bool.not_eq_true', Bool.not_eq_false', Bool.and_eq_true, Bool.or_eq_true, Bool.and_eq_false_iff, Bool.or_eq_false_iff, beq_iff_eq, bne_iff_ne, beq_eq_false_iff_ne, bne_eq_false_iff_eq, ne_eq, Decidable.not_not, Bool.decide_eq_true] at h1_
    first | done | omega | (exfalso; revert h1_; simp; (first | done | omega))
  · try simp only [decide_eq_true_eq, decide_eq_false_iff_not, Bool.not_eq_true', Bool.not_eq_false', Bool.and_eq_true, Bool.or_eq_true, Bool.and_eq_false_iff, Bool.or_eq_false_iff, beq_iff_eq, bne_iff_ne, beq_eq_false_iff_ne, bne_eq_false_iff_eq, ne_eq, Decidable.not_not, Bool.decide_eq_true] at h1_
    refine aw_skipT ?_
    refine aw_seq ?_
    refine aw_seq ?_
    refine aw_region ?_
    refine al_opd rfl rfl rfl (ao_mv (v := .slice _ _ _) rfl) ?_
    first | refine al_opd rfl rfl rfl (ao_lenS Try.underlying26 (by rfl)) ?_ | refine al_opd rfl rfl rfl (ao_lenN Try.underlying26 (by rfl)) ?_
    refine al_opd rfl rfl rfl (ao_eql rfl rfl) ?_
    refine al_nilT ?_
    refine aw_cond rfl (fun h2_ => ?_) (fun h2_ => ?_)
    · try simp only [decide_eq_true_eq, decide_eq_false_iff_not, Bool.not_eq_true', Bool.not_eq_false', Bool.and_eq_true, Bool.or_eq_true, Bool.and_eq_false_iff, Bool.or_eq_false_iff, beq_iff_eq, bne_iff_ne, beq_eq_false_iff_ne, bne_eq_false_iff_eq, ne_eq, Decidable.not_not, Bool.decide_eq_true] at h2_
      refine aw_seq ?_
      refine aw_region ?_
      refine al_opd rfl rfl rfl (ao_lit0 Try.underlying26 Try.sizeOf63 Try.zeroValue63 (by rfl) (by rfl) rfl) ?_
      refine al_opd rfl rfl rfl (ao_as (v := .slice _ _ _) rfl) ?_
      refine al_opd rfl rfl rfl (ao_as (v := .int _ _) rfl) ?_
      refine al_nilT ?_
      refine aw_ret ?_
      refine thenA_r ?_
      refine ends2 rfl (rv_tmp (v := .slice _ _ _) rfl) (rv_tmp (v := .int _ _) rfl) ?_
      exact ⟨by (repeat (first | exact Same.refl _ _ | assumption | refine Same.push ?_ (by (first | exact Nat.le_refl _ | omega | (simp only [next_push, next_set, next_kill]; omega))) _ | refine Same.set ?_ (by (first | exact Nat.le_refl _ | omega | (simp only [next_push, next_set, next_kill]; omega))) _ | refine Same.kill ?_ (by (first | exact Nat.le_refl _ | omega | (simp only [next_push, next_set, next_kill]; omega))))), _, by (first | exact Nat.le_refl _ | omega | (simp only [next_push, next_set, next_kill]; omega)), by ((repeat (first | exact blk_push_new _ _ | assumption | apply blk_push_old | apply blk_set_same | refine (blk_set_ne (by first | assumption | omega | (simp only [next_push, next_set, next_kill, ne_eq]; omega))).trans ?_ | refine (blk_kill_ne (by first | assumption | omega | (simp only [next_push, next_set, next_kill, ne_eq]; omega))).trans ?_)); (first | done | fail)), fun ρ h => vr_tup2 (vr_sl h (by omega) (by omega)) (.int _ _)⟩
    · try simp only [decide_eq_true_eq, decide_eq_false_iff_not, Bool.not_eq_true', Bool.not_eq_false', Bool.and_eq_true, Bool.or_eq_true, Bool.and_eq_false_iff, Bool.or_eq_false_iff, beq_iff_eq, bne_iff_ne, beq_eq_false_iff_ne, bne_eq_false_iff_eq, ne_eq, Decidable.not_not, Bool.decide_eq_true] at h2_
      first | done | omega | (exfalso; revert h2_; simp; (first | done | omega))

-- spec.AddPerson
theorem specAdd0_c {l : List Spot} {lb c' : Nat} {r : Room} {s : Spot} {H : AHeap} (hk0 : H.blk lb = some (.cells (fl spot l) 2)) (hcc' : l.length ≤ c') (hn : l.length ≤ 4194304) (hw : wfRoom r) (hsp : wfSpots l) (hs : wfSpot s) (hv : ¬ okFile r l) : ACd Try.prog 49 [.agg (roomC r).toArray, .slice (some ⟨lb, 0, none⟩) l.length c', .agg #[.int .i8 s.x, .int .i8 s.y]] H (.tuple #[.slice (some ⟨H.next, 0, none⟩) 0 0, .int .i64 1]) (H.push (.cells (fl spot []) 2)) := by
  have hh0 : Sl H spot 2 (.slice (some ⟨lb, 0, none⟩) l.length c') l := Sl.full spot_len hk0 rfl rfl rfl
  have hlt0 := AHeap.lt hk0
  refine ac_gcs (vrl_fl spot_plain []) (ac_body Try.func49 rfl Try.ntmps49 rfl ?_)
  refine aw_seq ?_
  refine aw_region ?_
  refine al_opd rfl rfl rfl (ao_boxa (by rfl)) ?_
  refine al_opd rfl rfl rfl (ao_boxa (by rfl)) ?_
  refine al_opd rfl rfl rfl (ao_as (v := .slice _ _ _) rfl) ?_
  refine al_opd rfl rfl rfl (ao_as (v := .int _ _) rfl) ?_
  refine al_nilT ?_
  refine aw_seq ?_
  refine aw_seq ?_
  refine aw_region ?_
  refine al_opd rfl rfl rfl (ao_mv (v := .slice _ _ _) rfl) ?_
  refine al_opd rfl rfl rfl (ao_calld (l02Ok_c (l := l) (lb := lb) (c' := c') (r := r) (b := false) (by ((repeat (first | exact blk_push_new _ _ | assumption | apply blk_push_old | apply blk_set_same | refine (blk_set_ne (by first | assumption | omega | (simp only [next_push, next_set, next_kill, ne_eq]; omega))).trans ?_ | refine (blk_kill_ne (by first | assumption | omega | (simp only [next_push, next_set, next_kill, ne_eq]; omega))).trans ?_)); (first | done | fail))) (by ((repeat (first | exact blk_push_new _ _ | assumption | apply blk_push_old | apply blk_set_same | refine (blk_set_ne (by first | assumption | omega | (simp only [next_push, next_set, next_kill, ne_eq]; omega))).trans ?_ | refine (blk_kill_ne (by first | assumption | omega | (simp only [next_push, next_set, next_kill, ne_eq]; omega))).trans ?_)); (first | done | fail))) hcc' hn hw hsp (no hv)) Try.call66 rfl rfl) ?_
  refine al_opd rfl rfl rfl (ao_not rfl) ?_
  refine al_nilT ?_
  refine aw_cond rfl (fun h1_ => ?_) (fun h1_ => ?_)
  · try simp only [decide_eq_true_eq, decide_eq_false_iff_not, Bool.not_eq_true', Bool.not_eq_false', Bool.and_eq_true, Bool.or_eq_true, Bool.and_eq_false_iff, Bool.or_eq_false_iff, beq_iff_eq, bne_iff_ne, beq_eq_false_iff_ne, bne_eq_false_iff_eq, ne_eq, Decidable.not_not, Bool.decide_eq_true] at h1_
    refine aw_seq ?_
    refine aw_region ?_
    refine al_opd rfl rfl rfl (ao_lit0 Try.underlying26 Try.sizeOf63 Try.zeroValue63 (by rfl) (by rfl) rfl) ?_
    refine al_opd rfl rfl rfl (ao_as (v := .slice _ _ _) rfl) ?_
    refine al_opd rfl rfl rfl (ao_as (v := .int _ _) rfl) ?_
    refine al_nilT ?_
    refine aw_ret ?_
    refine thenA_r ?_
    refine ends2 rfl (rv_tmp (v := .slice _ _ _) rfl) (rv_tmp (v := .int _ _) rfl) ?_
    exact ⟨by (repeat (first | exact Same.refl _ _ | assumption | refine Same.push ?_ (by (first | exact Nat.le_refl _ | omega | (simp only [next_push, next_set, next_kill]; omega))) _ | refine Same.set ?_ (by (first | exact Nat.le_refl _ | omega | (simp only [next_push, next_set, next_kill]; omega))) _ | refine Same.kill ?_ (by (first | exact Nat.le_refl _ | omega | (simp only [next_push, next_set, next_kill]; omega))))), _, by (first | exact Nat.le_refl _ | omega | (simp only [next_push, next_set, next_kill]; omega)), by ((repeat (first | exact blk_push_new _ _ | assumption | apply blk_push_old | apply blk_set_same | refine (blk_set_ne (by first | assumption | omega | (simp only [next_push, next_set, next_kill, ne_eq]; omega))).trans ?_ | refine (blk_kill_ne (by first | assumption | omega | (simp only [next_push, next_set, next_kill, ne_eq]; omega))).trans ?_)); (first | done | fail)), fun ρ h => vr_tup2 (vr_sl h (by omega) (by omega)) (.int _ _)⟩
  · try simp only [decide_eq_true_eq, decide_eq_false_iff_not, Bool.not_eq_true', Bool.not_eq_false', Bool.and_eq_true, Bool.or_eq_true, Bool.and_eq_false_iff, Bool.or_eq_false_iff, beq_iff_eq, bne_iff_ne, beq_eq_false_iff_ne, bne_eq_false_iff_eq, ne_eq, Decidable.not_not, Bool.decide_eq_true] at h1_
    first | done | omega | (exfalso; revert h1_; simp; (first | done | omega))

-- impl.AddPerson
theorem implAdd3_c {l : List Spot} {lb c' : Nat} {r : Room} {s : Spot} {H : AHeap} (hk0 : H.blk lb = some (.cells (fl spot l) 2)) (hcc' : l.length ≤ c') (hn : l.length ≤ 4194304) (hw : wfRoom r) (hsp : wfSpots l) (hs : wfSpot s) (hv : okFile r l) (h12 : l.length = 12) : ACd Try.prog 51 [.agg (roomC r).toArray, .slice (some ⟨lb, 0, none⟩) l.length c', .agg #[.int .i8 s.x, .int .i8 s.y]] H (.tuple #[.slice none 0 0, .int .i64 3]) (H) := by
  have hh0 : Sl H spot 2 (.slice (some ⟨lb, 0, none⟩) l.length c') l := Sl.full spot_len hk0 rfl rfl rfl
  have hlt0 := AHeap.lt hk0
  refine ac_gc0 (fun β => VR.plainT β (by first | rfl | simp [plainT, plainV, plain1])) (ac_body Try.func51 rfl Try.ntmps51 rfl ?_)
  refine aw_seq ?_
  refine aw_region ?_
  refine al_opd rfl rfl rfl (ao_boxa (by rfl)) ?_
  refine al_opd rfl rfl rfl (ao_boxa (by rfl)) ?_
  refine al_opd rfl rfl rfl (ao_as (v := .slice _ _ _) rfl) ?_
  refine al_opd rfl rfl rfl (ao_as (v := .int _ _) rfl) ?_
  refine al_nilT ?_
  refine aw_seq ?_
  refine aw_block ?_
  refine aw_seq ?_
  refine aw_region ?_
  refine al_opd rfl rfl rfl (ao_loada Try.isAgg44 Try.sizeOf44 rfl (by ((repeat (first | exact blk_push_new _ _ | assumption | apply blk_push_old | apply blk_set_same | refine (blk_set_ne (by first | assumption | omega | (simp only [next_push, next_set, next_kill, ne_eq]; omega))).trans ?_ | refine (blk_kill_ne (by first | assumption | omega | (simp only [next_push, next_set, next_kill, ne_eq]; omega))).trans ?_)); (first | done | fail))) (by rfl) (by first | rfl | (simp; (first | done | fail)))) ?_
  refine al_opd rfl rfl rfl (ao_mv (v := .slice _ _ _) rfl) ?_
  refine al_opd rfl rfl rfl (ao_calld (implValidFile_c (l := l) (lb := lb) (c' := c') (r := r) (b := true) (by ((repeat (first | exact blk_push_new _ _ | assumption | apply blk_push_old | apply blk_set_same | refine (blk_set_ne (by first | assumption | omega | (simp only [next_push, next_set, next_kill, ne_eq]; omega))).trans ?_ | refine (blk_kill_ne (by first | assumption | omega | (simp only [next_push, next_set, next_kill, ne_eq]; omega))).trans ?_)); (first | done | fail))) hcc' hn hw hsp (yes hv)) Try.call32 rfl rfl) ?_
  refine al_opd rfl rfl rfl (ao_not rfl) ?_
  refine al_opd rfl rfl rfl (ao_as (v := .bool _) rfl) ?_
  refine al_nilT ?_
  refine aw_cond rfl (fun h1_ => ?_) (fun h1_ => ?_)
  · try simp only [decide_eq_true_eq, decide_eq_false_iff_not, Bool.not_eq_true', Bool.not_eq_false', Bool.and_eq_true, Bool.or_eq_true, Bool.and_eq_false_iff, Bool.or_eq_false_iff, beq_iff_eq, bne_iff_ne, beq_eq_false_iff_ne, bne_eq_false_iff_eq, ne_eq, Decidable.not_not, Bool.decide_eq_true] at h1_
    first | done | omega | (exfalso; revert h1_; simp; (first | done | omega))
  · try simp only [decide_eq_true_eq, decide_eq_false_iff_not, Bool.not_eq_true', Bool.not_eq_false', Bool.and_eq_true, Bool.or_eq_true, Bool.and_eq_false_iff, Bool.or_eq_false_iff, beq_iff_eq, bne_iff_ne, beq_eq_false_iff_ne, bne_eq_false_iff_eq, ne_eq, Decidable.not_not, Bool.decide_eq_true] at h1_
    refine aw_seq ?_
    refine aw_region ?_
    refine al_opd rfl rfl rfl (ao_mv (v := .slice _ _ _) rfl) ?_
    first | refine al_opd rfl rfl rfl (ao_lenS Try.underlying26 (by rfl)) ?_ | refine al_opd rfl rfl rfl (ao_lenN Try.underlying26 (by rfl)) ?_
    refine al_opd rfl rfl rfl (ao_eql rfl rfl) ?_
    refine al_opd rfl rfl rfl (ao_as (v := .bool _) rfl) ?_
    refine al_nilT ?_
    refine aw_cond rfl (fun h2_ => ?_) (fun h2_ => ?_)
    · try simp only [decide_eq_true_eq, decide_eq_false_iff_not, Bool.not_eq_true', Bool.not_eq_false', Bool.and_eq_true, Bool.or_eq_true, Bool.and_eq_false_iff, Bool.or_eq_false_iff, beq_iff_eq, bne_iff_ne, beq_eq_false_iff_ne, bne_eq_false_iff_eq, ne_eq, Decidable.not_not, Bool.decide_eq_true] at h2_
      refine aw_seq ?_
      refine aw_region ?_
      refine al_opd rfl rfl rfl (ao_as (v := .slice _ _ _) rfl) ?_
      refine al_opd rfl rfl rfl (ao_as (v := .int _ _) rfl) ?_
      refine al_nilT ?_
      refine aw_ret ?_
      refine blockA_r ?_
      refine thenA_r ?_
      refine ends2 rfl (rv_tmp (v := .slice _ _ _) rfl) (rv_tmp (v := .int _ _) rfl) ?_
      exact ⟨by first | rfl | (simp [*]; (first | done | fail)), by (repeat (first | exact Same.refl _ _ | assumption | refine Same.push ?_ (by (first | exact Nat.le_refl _ | omega | (simp only [next_push, next_set, next_kill]; omega))) _ | refine Same.set ?_ (by (first | exact Nat.le_refl _ | omega | (simp only [next_push, next_set, next_kill]; omega))) _ | refine Same.kill ?_ (by (first | exact Nat.le_refl _ | omega | (simp only [next_push, next_set, next_kill]; omega)))))⟩
    · try simp only [decide_eq_true_eq, decide_eq_false_iff_not, Bool.not_eq_true', Bool.not_eq_false', Bool.and_eq_true, Bool.or_eq_true, Bool.and_eq_false_iff, Bool.or_eq_false_iff, beq_iff_eq, bne_iff_ne, beq_eq_false_iff_ne, bne_eq_false_iff_eq, ne_eq, Decidable.not_not, Bool.decide_eq_true] at h2_
      first | done | omega | (exfalso; revert h2_; simp; (first | done | omega))

-- impl.AddPerson
theorem implAdd0_c {l : List Spot} {lb c' : Nat} {r : Room} {s : Spot} {H : AHeap} (hk0 : H.blk lb = some (.cells (fl spot l) 2)) (hcc' : l.length ≤ c') (hn : l.length ≤ 4194304) (hw : wfRoom r) (hsp : wfSpots l) (hs : wfSpot s) (hv : ¬ okFile r l) : ACd Try.prog 51 [.agg (roomC r).toArray, .slice (some ⟨lb, 0, none⟩) l.length c', .agg #[.int .i8 s.x, .int .i8 s.y]] H (.tuple #[.slice none 0 0, .int .i64 1]) (H) := by
  have hh0 : Sl H spot 2 (.slice (some ⟨lb, 0, none⟩) l.length c') l := Sl.full spot_len hk0 rfl rfl rfl
  have hlt0 := AHeap.lt hk0
  refine ac_gc0 (fun β => VR.plainT β (by first | rfl | simp [plainT, plainV, plain1])) (ac_body Try.func51 rfl Try.ntmps51 rfl ?_)
  refine aw_seq ?_
  refine aw_region ?_
  refine al_opd rfl rfl rfl (ao_boxa (by rfl)) ?_
  refine al_opd rfl rfl rfl (ao_boxa (by rfl)) ?_
  refine al_opd rfl rfl rfl (ao_as (v := .slice _ _ _) rfl) ?_
  refine al_opd rfl rfl rfl (ao_as (v := .int _ _) rfl) ?_
  refine al_nilT ?_
  refine aw_seq ?_
  refine aw_block ?_
  refine aw_seq ?_
  refine aw_region ?_
  refine al_opd rfl rfl rfl (ao_loada Try.isAgg44 Try.sizeOf44 rfl (by ((repeat (first | exact blk_push_new _ _ | assumption | apply blk_push_old | apply blk_set_same | refine (blk_set_ne (by first | assumption | omega | (simp only [next_push, next_set, next_kill, ne_eq]; omega))).trans ?_ | refine (blk_kill_ne (by first | assumption | omega | (simp only [next_push, next_set, next_kill, ne_eq]; omega))).trans ?_)); (first | done | fail))) (by rfl) (by first | rfl | (simp; (first | done | fail)))) ?_
  refine al_opd rfl rfl rfl (ao_mv (v := .slice _ _ _) rfl) ?_
  refine al_opd rfl rfl rfl (ao_calld (implValidFile_c (l := l) (lb := lb) (c' := c') (r := r) (b := false) (by ((repeat (first | exact blk_push_new _ _ | assumption | apply blk_push_old | apply blk_set_same | refine (blk_set_ne (by first | assumption | omega | (simp only [next_push, next_set, next_kill, ne_eq]; omega))).trans ?_ | refine (blk_kill_ne (by first | assumption | omega | (simp only [next_push, next_set, next_kill, ne_eq]; omega))).trans ?_)); (first | done | fail))) hcc' hn hw hsp (no hv)) Try.call32 rfl rfl) ?_
  refine al_opd rfl rfl rfl (ao_not rfl) ?_
  refine al_opd rfl rfl rfl (ao_as (v := .bool _) rfl) ?_
  refine al_nilT ?_
  refine aw_cond rfl (fun h1_ => ?_) (fun h1_ => ?_)
  · try simp only [decide_eq_true_eq, decide_eq_false_iff_not, Bool.not_eq_true', Bool.not_eq_false', Bool.and_eq_true, Bool.or_eq_true, Bool.and_eq_false_iff, Bool.or_eq_false_iff, beq_iff_eq, bne_iff_ne, beq_eq_false_iff_ne, bne_eq_false_iff_eq, ne_eq, Decidable.not_not, Bool.decide_eq_true] at h1_
    refine aw_seq ?_
    refine aw_region ?_
    refine al_opd rfl rfl rfl (ao_as (v := .slice _ _ _) rfl) ?_
    refine al_opd rfl rfl rfl (ao_as (v := .int _ _) rfl) ?_
    refine al_nilT ?_
    refine aw_ret ?_
    refine blockA_r ?_
    refine thenA_r ?_
    refine ends2 rfl (rv_tmp (v := .slice _ _ _) rfl) (rv_tmp (v := .int _ _) rfl) ?_
    exact ⟨by first | rfl | (simp [*]; (first | done | fail)), by (repeat (first | exact Same.refl _ _ | assumption | refine Same.push ?_ (by (first | exact Nat.le_refl _ | omega | (simp only [next_push, next_set, next_kill]; omega))) _ | refine Same.set ?_ (by (first | exact Nat.le_refl _ | omega | (simp only [next_push, next_set, next_kill]; omega))) _ | refine Same.kill ?_ (by (first | exact Nat.le_refl _ | omega | (simp only [next_push, next_set, next_kill]; omega)))))⟩
  · try simp only [decide_eq_true_eq, decide_eq_false_iff_not, Bool.not_eq_true', Bool.not_eq_false', Bool.and_eq_true, Bool.or_eq_true, Bool.and_eq_false_iff, Bool.or_eq_false_iff, beq_iff_eq, bne_iff_ne, beq_eq_false_iff_ne, bne_eq_false_iff_eq, ne_eq, Decidable.not_not, Bool.decide_eq_true] at h1_
    first | done | omega | (exfalso; revert h1_; simp; (first | done | omega))

-- laws.FnExactAddPerson
theorem lawAdd1_c {r : Room} {v : Value} {l : List Spot} {s : Spot} {H : AHeap} (hw : wfRoom r) (ha : Sl H spot 2 v l) (hl : l.length ≤ 9223372036854775807) (hsp : wfSpots l) (hs : wfSpot s) (hv : okFile r l) (h12 : l.length ≠ 12) (hf : fileOk r (l ++ [s])) : ACd Try.prog 14 [.agg (roomC r).toArray, v, .agg #[.int .i8 s.x, .int .i8 s.y]] H (.bool true) (H) := by
  have hla : (l ++ [s]).length = l.length + 1 := by simp
  refine ac_gc0 (fun β => VR.plainT β (by first | rfl | simp [plainT, plainV, plain1])) (ac_body Try.func14 rfl Try.ntmps14 rfl ?_)
  refine aw_seq ?_
  refine aw_region ?_
  refine al_opd rfl rfl rfl (ao_boxa (by rfl)) ?_
  refine al_opd rfl rfl rfl (ao_boxa (by rfl)) ?_
  refine al_opd rfl rfl rfl (ao_as (v := .bool _) rfl) ?_
  refine al_nilT ?_
  refine aw_seq ?_
  refine aw_region ?_
  refine al_opd rfl rfl rfl (ao_as (v := .int _ _) rfl) ?_
  refine al_nilT ?_
  refine aw_seq ?_
  refine aw_region ?_
  first | refine al_opd rfl rfl rfl (ao_mv (v := .slice _ _ _) rfl) ?_ | refine al_opd rfl rfl rfl (ao_mv (v := v) rfl) ?_
  refine al_opd rfl rfl rfl (ao_mv (v := .int _ _) rfl) ?_
  refine al_opd rfl rfl rfl (ao_calld (szFile_c (v := v) (l := l) (k := 1048576) (ha.mono (by (repeat (first | exact Same.refl _ _ | assumption | refine Same.push ?_ (by (first | exact Nat.le_refl _ | omega | (simp only [next_push, next_set, next_kill]; omega))) _ | refine Same.set ?_ (by (first | exact Nat.le_refl _ | omega | (simp only [next_push, next_set, next_kill]; omega))) _ | refine Same.kill ?_ (by (first | exact Nat.le_refl _ | omega | (simp only [next_push, next_set, next_kill]; omega))))))) hl (by omega)) Try.call17 rfl rfl) ?_
  refine al_opd rfl rfl rfl (ao_as (v := .int _ _) rfl) ?_
  refine al_nilT ?_
  refine aw_seq ?_
  refine aw_seq ?_
  refine aw_region ?_
  refine al_opd rfl rfl rfl (ao_mv (v := .int _ _) rfl) ?_
  refine al_opd rfl rfl rfl (ao_lss rfl rfl) ?_
  refine al_nilT ?_
  refine aw_cond rfl (fun h1_ => ?_) (fun h1_ => ?_)
  · try simp only [decide_eq_true_eq, decide_eq_false_iff_not, Bool.not_eq_true', Bool.not_eq_false', Bool.and_eq_true, Bool.or_eq_true, Bool.and_eq_false_iff, Bool.or_eq_false_iff, beq_iff_eq, bne_iff_ne, beq_eq_false_iff_ne, bne_eq_false_iff_eq, ne_eq, Decidable.not_not, Bool.decide_eq_true] at h1_
    refine aw_seq ?_
    refine aw_region ?_
    refine al_opd rfl rfl rfl (ao_as (v := .bool _) rfl) ?_
    refine al_nilT ?_
    refine aw_ret ?_
    refine thenA_r ?_
    refine ends1 rfl (rv_tmp (v := .bool _) rfl) ?_
    exact ⟨by first | rfl | (simp [*]; (first | done | fail)), by (repeat (first | exact Same.refl _ _ | assumption | refine Same.push ?_ (by (first | exact Nat.le_refl _ | omega | (simp only [next_push, next_set, next_kill]; omega))) _ | refine Same.set ?_ (by (first | exact Nat.le_refl _ | omega | (simp only [next_push, next_set, next_kill]; omega))) _ | refine Same.kill ?_ (by (first | exact Nat.le_refl _ | omega | (simp only [next_push, next_set, next_kill]; omega)))))⟩
  · try simp only [decide_eq_true_eq, decide_eq_false_iff_not, Bool.not_eq_true', Bool.not_eq_false', Bool.and_eq_true, Bool.or_eq_true, Bool.and_eq_false_iff, Bool.or_eq_false_iff, beq_iff_eq, bne_iff_ne, beq_eq_false_iff_ne, bne_eq_false_iff_eq, ne_eq, Decidable.not_not, Bool.decide_eq_true] at h1_
    have hl1 : l.length ≤ 1048576 := by omega
    refine aw_skipT ?_
    refine aw_seq ?_
    refine aw_draw (m := 12) mo (by kernel_rfl) rfl (fun _ _ _ h => h) ?_
    refine dw_opd rfl rfl rfl (ao_loada Try.isAgg42 Try.sizeOf42 rfl (by ((repeat (first | exact blk_push_new _ _ | assumption | apply blk_push_old | apply blk_set_same | refine (blk_set_ne (by first | assumption | omega | (simp only [next_push, next_set, next_kill, ne_eq]; omega))).trans ?_ | refine (blk_kill_ne (by first | assumption | omega | (simp only [next_push, next_set, next_kill, ne_eq]; omega))).trans ?_)); (first | done | fail))) (by rfl) (by first | rfl | (simp; (first | done | fail)))) ?_
    refine dw_opd rfl rfl rfl (ao_calld (toRoom_c (r := r)) Try.call31 rfl rfl) ?_
    first | refine dw_opd rfl rfl rfl (ao_mv (v := .slice _ _ _) rfl) ?_ | refine dw_opd rfl rfl rfl (ao_mv (v := v) rfl) ?_
    refine dw_opn rfl rfl rfl (ao_calld (toFile_c (v := v) (l := l) (ha.mono (by (repeat (first | exact Same.refl _ _ | assumption | refine Same.push ?_ (by (first | exact Nat.le_refl _ | omega | (simp only [next_push, next_set, next_kill]; omega))) _ | refine Same.set ?_ (by (first | exact Nat.le_refl _ | omega | (simp only [next_push, next_set, next_kill]; omega))) _ | refine Same.kill ?_ (by (first | exact Nat.le_refl _ | omega | (simp only [next_push, next_set, next_kill]; omega))))))) (by omega)) Try.call19 rfl rfl) ?_
    refine dw_opd rfl rfl rfl (ao_loada Try.isAgg61 Try.sizeOf61 rfl (by ((repeat (first | exact blk_push_new _ _ | assumption | apply blk_push_old | apply blk_set_same | refine (blk_set_ne (by first | assumption | omega | (simp only [next_push, next_set, next_kill, ne_eq]; omega))).trans ?_ | refine (blk_kill_ne (by first | assumption | omega | (simp only [next_push, next_set, next_kill, ne_eq]; omega))).trans ?_)); (first | done | fail))) (by rfl) (by first | rfl | (simp; (first | done | fail)))) ?_
    refine dw_opd rfl rfl rfl (ao_calld (toSpot_c (s := s)) Try.call50 rfl rfl) ?_
    refine dw_opn rfl rfl rfl (ao_calld (specAdd1_c (l := l) (r := r) (by ((repeat (first | exact blk_push_new _ _ | assumption | apply blk_push_old | apply blk_set_same | refine (blk_set_ne (by first | assumption | omega | (simp only [next_push, next_set, next_kill, ne_eq]; omega))).trans ?_ | refine (blk_kill_ne (by first | assumption | omega | (simp only [next_push, next_set, next_kill, ne_eq]; omega))).trans ?_)); (first | done | fail))) (by omega) (by omega) hw hsp hs hv h12 hf) Try.call49 rfl rfl) ?_
    refine dw_opd rfl rfl rfl (ao_mv (v := .tuple _) rfl) ?_
    refine dw_opd rfl rfl rfl (ao_extract (v := .slice _ _ _) rfl rfl) ?_
    refine dw_opd rfl rfl rfl (ao_extract (v := .int _ _) rfl rfl) ?_
    first | refine dw_opd rfl rfl rfl (ao_as (v := .slice _ _ _) rfl) ?_ | refine dw_opd rfl rfl rfl (ao_as (v := v) rfl) ?_
    refine dw_opd rfl rfl rfl (ao_as (v := .int _ _) rfl) ?_
    refine dw_end ?_
    refine al_nilT ?_
    refine aw_seq ?_
    refine aw_region ?_
    first | refine al_opd rfl rfl rfl (ao_mv (v := .slice _ _ _) rfl) ?_ | refine al_opd rfl rfl rfl (ao_mv (v := v) rfl) ?_
    refine al_opd rfl rfl rfl (ao_calld (toFile_c (v := v) (l := l) (ha.mono (by (repeat (first | exact Same.refl _ _ | assumption | refine Same.push ?_ (by (first | exact Nat.le_refl _ | omega | (simp only [next_push, next_set, next_kill]; omega))) _ | refine Same.set ?_ (by (first | exact Nat.le_refl _ | omega | (simp only [next_push, next_set, next_kill]; omega))) _ | refine Same.kill ?_ (by (first | exact Nat.le_refl _ | omega | (simp only [next_push, next_set, next_kill]; omega))))))) (by omega)) Try.call19 rfl rfl) ?_
    first | refine al_opd rfl rfl rfl (ao_as (v := .slice _ _ _) rfl) ?_ | refine al_opd rfl rfl rfl (ao_as (v := v) rfl) ?_
    refine al_nilT ?_
    refine aw_seq ?_
    refine aw_draw (m := 11) mo (by kernel_rfl) rfl (fun _ _ _ h => h) ?_
    refine dw_opd rfl rfl rfl (ao_loada Try.isAgg42 Try.sizeOf42 rfl (by ((repeat (first | exact blk_push_new _ _ | assumption | apply blk_push_old | apply blk_set_same | refine (blk_set_ne (by first | assumption | omega | (simp only [next_push, next_set, next_kill, ne_eq]; omega))).trans ?_ | refine (blk_kill_ne (by first | assumption | omega | (simp only [next_push, next_set, next_kill, ne_eq]; omega))).trans ?_)); (first | done | fail))) (by rfl) (by first | rfl | (simp; (first | done | fail)))) ?_
    refine dw_opd rfl rfl rfl (ao_calld (toRoom_c (r := r)) Try.call31 rfl rfl) ?_
    first | refine dw_opd rfl rfl rfl (ao_mv (v := .slice _ _ _) rfl) ?_ | refine dw_opd rfl rfl rfl (ao_mv (v := v) rfl) ?_
    refine dw_opd rfl rfl rfl (ao_loada Try.isAgg61 Try.sizeOf61 rfl (by ((repeat (first | exact blk_push_new _ _ | assumption | apply blk_push_old | apply blk_set_same | refine (blk_set_ne (by first | assumption | omega | (simp only [next_push, next_set, next_kill, ne_eq]; omega))).trans ?_ | refine (blk_kill_ne (by first | assumption | omega | (simp only [next_push, next_set, next_kill, ne_eq]; omega))).trans ?_)); (first | done | fail))) (by rfl) (by first | rfl | (simp; (first | done | fail)))) ?_
    refine dw_opd rfl rfl rfl (ao_calld (toSpot_c (s := s)) Try.call50 rfl rfl) ?_
    refine dw_opn rfl rfl rfl (ao_calld (implAdd1_c (l := l) (r := r) (by ((repeat (first | exact blk_push_new _ _ | assumption | apply blk_push_old | apply blk_set_same | refine (blk_set_ne (by first | assumption | omega | (simp only [next_push, next_set, next_kill, ne_eq]; omega))).trans ?_ | refine (blk_kill_ne (by first | assumption | omega | (simp only [next_push, next_set, next_kill, ne_eq]; omega))).trans ?_)); (first | done | fail))) (by omega) (by omega) hw hsp hs hv h12 hf) Try.call51 rfl rfl) ?_
    refine dw_opd rfl rfl rfl (ao_mv (v := .tuple _) rfl) ?_
    refine dw_opd rfl rfl rfl (ao_extract (v := .slice _ _ _) rfl rfl) ?_
    refine dw_opd rfl rfl rfl (ao_extract (v := .int _ _) rfl rfl) ?_
    first | refine dw_opd rfl rfl rfl (ao_as (v := .slice _ _ _) rfl) ?_ | refine dw_opd rfl rfl rfl (ao_as (v := v) rfl) ?_
    refine dw_opd rfl rfl rfl (ao_as (v := .int _ _) rfl) ?_
    refine dw_end ?_
    refine al_nilT ?_
    refine aw_seq ?_
    refine aw_seq ?_
    refine aw_region ?_
    first | refine al_opd rfl rfl rfl (ao_mv (v := .slice _ _ _) rfl) ?_ | refine al_opd rfl rfl rfl (ao_mv (v := v) rfl) ?_
    first | refine al_opd rfl rfl rfl (ao_mv (v := .slice _ _ _) rfl) ?_ | refine al_opd rfl rfl rfl (ao_mv (v := v) rfl) ?_
    refine al_opd rfl rfl rfl (ao_calld (eqFile_c (l := (l ++ [s])) (m := (l ++ [s])) (Sl.full spot_len (by ((repeat (first | exact blk_push_new _ _ | assumption | apply blk_push_old | apply blk_set_same | refine (blk_set_ne (by first | assumption | omega | (simp only [next_push, next_set, next_kill, ne_eq]; omega))).trans ?_ | refine (blk_kill_ne (by first | assumption | omega | (simp only [next_push, next_set, next_kill, ne_eq]; omega))).trans ?_)); (first | done | fail))) rfl rfl rfl) (Sl.full spot_len (by ((repeat (first | exact blk_push_new _ _ | assumption | apply blk_push_old | apply blk_set_same | refine (blk_set_ne (by first | assumption | omega | (simp only [next_push, next_set, next_kill, ne_eq]; omega))).trans ?_ | refine (blk_kill_ne (by first | assumption | omega | (simp only [next_push, next_set, next_kill, ne_eq]; omega))).trans ?_)); (first | done | fail))) rfl rfl rfl) (by omega)) Try.call21 rfl rfl) ?_
    refine al_opd rfl rfl rfl (ao_not rfl) ?_
    refine al_opd rfl rfl rfl (ao_mv (v := .bool _) rfl) ?_
    refine al_cases (d := 48) rfl (fun h2_ => ?_) (fun h2_ => ?_)
    · try simp only [decide_eq_true_eq, decide_eq_false_iff_not, Bool.not_eq_true', Bool.not_eq_false', Bool.and_eq_true, Bool.or_eq_true, Bool.and_eq_false_iff, Bool.or_eq_false_iff, beq_iff_eq, bne_iff_ne, beq_eq_false_iff_ne, bne_eq_false_iff_eq, ne_eq, Decidable.not_not, Bool.decide_eq_true] at h2_
      first | done | omega | (exfalso; revert h2_; simp; (first | done | omega))
    · try simp only [decide_eq_true_eq, decide_eq_false_iff_not, Bool.not_eq_true', Bool.not_eq_false', Bool.and_eq_true, Bool.or_eq_true, Bool.and_eq_false_iff, Bool.or_eq_false_iff, beq_iff_eq, bne_iff_ne, beq_eq_false_iff_ne, bne_eq_false_iff_eq, ne_eq, Decidable.not_not, Bool.decide_eq_true] at h2_
      refine al_gyes rfl rfl rfl rfl rfl (ao_mv (v := .int _ _) rfl) ?_
      refine al_gyes rfl rfl rfl rfl rfl (ao_mv (v := .int _ _) rfl) ?_
      refine al_gyes rfl rfl rfl rfl rfl (ao_neq rfl rfl) ?_
      refine al_opd rfl rfl rfl (ao_pickF rfl (v := .bool _) rfl) ?_
      refine al_nilT ?_
      refine aw_cond rfl (fun h3_ => ?_) (fun h3_ => ?_)
      · try simp only [decide_eq_true_eq, decide_eq_false_iff_not, Bool.not_eq_true', Bool.not_eq_false', Bool.and_eq_true, Bool.or_eq_true, Bool.and_eq_false_iff, Bool.or_eq_false_iff, beq_iff_eq, bne_iff_ne, beq_eq_false_iff_ne, bne_eq_false_iff_eq, ne_eq, Decidable.not_not, Bool.decide_eq_true] at h3_
        first | done | omega | (exfalso; revert h3_; simp; (first | done | omega))
      · try simp only [decide_eq_true_eq, decide_eq_false_iff_not, Bool.not_eq_true', Bool.not_eq_false', Bool.and_eq_true, Bool.or_eq_true, Bool.and_eq_false_iff, Bool.or_eq_false_iff, beq_iff_eq, bne_iff_ne, beq_eq_false_iff_ne, bne_eq_false_iff_eq, ne_eq, Decidable.not_not, Bool.decide_eq_true] at h3_
        refine aw_skipT ?_
        refine aw_seq ?_
        refine aw_seq ?_
        refine aw_region ?_
        first | refine al_opd rfl rfl rfl (ao_mv (v := .slice _ _ _) rfl) ?_ | refine al_opd rfl rfl rfl (ao_mv (v := v) rfl) ?_
        first | refine al_opd rfl rfl rfl (ao_mv (v := .slice _ _ _) rfl) ?_ | refine al_opd rfl rfl rfl (ao_mv (v := v) rfl) ?_
        refine al_opd rfl rfl rfl (ao_calld (toFile_c (v := v) (l := l) (ha.mono (by (repeat (first | exact Same.refl _ _ | assumption | refine Same.push ?_ (by (first | exact Nat.le_refl _ | omega | (simp only [next_push, next_set, next_kill]; omega))) _ | refine Same.set ?_ (by (first | exact Nat.le_refl _ | omega | (simp only [next_push, next_set, next_kill]; omega))) _ | refine Same.kill ?_ (by (first | exact Nat.le_refl _ | omega | (simp only [next_push, next_set, next_kill]; omega))))))) (by omega)) Try.call19 rfl rfl) ?_
        refine al_opd rfl rfl rfl (ao_calld (eqFile_c (l := l) (m := l) (Sl.full spot_len (by ((repeat (first | exact blk_push_new _ _ | assumption | apply blk_push_old | apply blk_set_same | refine (blk_set_ne (by first | assumption | omega | (simp only [next_push, next_set, next_kill, ne_eq]; omega))).trans ?_ | refine (blk_kill_ne (by first | assumption | omega | (simp only [next_push, next_set, next_kill, ne_eq]; omega))).trans ?_)); (first | done | fail))) rfl rfl rfl) (Sl.full spot_len (by ((repeat (first | exact blk_push_new _ _ | assumption | apply blk_push_old | apply blk_set_same | refine (blk_set_ne (by first | assumption | omega | (simp only [next_push, next_set, next_kill, ne_eq]; omega))).trans ?_ | refine (blk_kill_ne (by first | assumption | omega | (simp only [next_push, next_set, next_kill, ne_eq]; omega))).trans ?_)); (first | done | fail))) rfl rfl rfl) (by omega)) Try.call21 rfl rfl) ?_
        refine al_opd rfl rfl rfl (ao_not rfl) ?_
        refine al_nilT ?_
        refine aw_cond rfl (fun h4_ => ?_) (fun h4_ => ?_)
        · try simp only [decide_eq_true_eq, decide_eq_false_iff_not, Bool.not_eq_true', Bool.not_eq_false', Bool.and_eq_true, Bool.or_eq_true, Bool.and_eq_false_iff, Bool.or_eq_false_iff, beq_iff_eq, bne_iff_ne, beq_eq_false_iff_ne, bne_eq_false_iff_eq, ne_eq, Decidable.not_not, Bool.decide_eq_true] at h4_
          first | done | omega | (exfalso; revert h4_; simp; (first | done | omega))
        · try simp only [decide_eq_true_eq, decide_eq_false_iff_not, Bool.not_eq_true', Bool.not_eq_false', Bool.and_eq_true, Bool.or_eq_true, Bool.and_eq_false_iff, Bool.or_eq_false_iff, beq_iff_eq, bne_iff_ne, beq_eq_false_iff_ne, bne_eq_false_iff_eq, ne_eq, Decidable.not_not, Bool.decide_eq_true] at h4_
          refine aw_skipT ?_
          refine aw_seq ?_
          refine aw_region ?_
          refine al_opd rfl rfl rfl (ao_as (v := .int _ _) rfl) ?_
          refine al_nilT ?_
          refine aw_seq ?_
          refine aw_region ?_
          first | refine al_opd rfl rfl rfl (ao_mv (v := .slice _ _ _) rfl) ?_ | refine al_opd rfl rfl rfl (ao_mv (v := v) rfl) ?_
          refine al_opd rfl rfl rfl (ao_mv (v := .int _ _) rfl) ?_
          refine al_opd rfl rfl rfl ((ao_calld (mark_file_c (l := l) (k := 1) (by ((repeat (first | exact blk_push_new _ _ | assumption | apply blk_push_old | apply blk_set_same | refine (blk_set_ne (by first | assumption | omega | (simp only [next_push, next_set, next_kill, ne_eq]; omega))).trans ?_ | refine (blk_kill_ne (by first | assumption | omega | (simp only [next_push, next_set, next_kill, ne_eq]; omega))).trans ?_)); (first | done | fail))) (by omega) (by omega)) Try.call41 rfl rfl).to (SetR.eq (by (repeat (first | exact SetR.new | exact SetR.same | (apply SetR.old; · exact ⟨_, by ((repeat (first | exact blk_push_new _ _ | assumption | apply blk_push_old | apply blk_set_same | refine (blk_set_ne (by first | assumption | omega | (simp only [next_push, next_set, next_kill, ne_eq]; omega))).trans ?_ | refine (blk_kill_ne (by first | assumption | omega | (simp only [next_push, next_set, next_kill, ne_eq]; omega))).trans ?_)); (first | done | fail))⟩) | exact SetR.base))))) ?_
          refine al_opd rfl rfl rfl (ao_as (v := .int _ _) rfl) ?_
          refine al_nilT ?_
          refine aw_seq ?_
          refine aw_seq ?_
          refine aw_region ?_
          refine al_opd rfl rfl rfl (ao_mv (v := .int _ _) rfl) ?_
          refine al_opd rfl rfl rfl (ao_lss rfl rfl) ?_
          refine al_opd rfl rfl rfl (ao_mv (v := .bool _) rfl) ?_
          refine al_cases (d := 63) rfl (fun h5_ => ?_) (fun h5_ => ?_)
          · try simp only [decide_eq_true_eq, decide_eq_false_iff_not, Bool.not_eq_true', Bool.not_eq_false', Bool.and_eq_true, Bool.or_eq_true, Bool.and_eq_false_iff, Bool.or_eq_false_iff, beq_iff_eq, bne_iff_ne, beq_eq_false_iff_ne, bne_eq_false_iff_eq, ne_eq, Decidable.not_not, Bool.decide_eq_true] at h5_
            first | done | omega | (exfalso; revert h5_; simp; (first | done | omega))
          · try simp only [decide_eq_true_eq, decide_eq_false_iff_not, Bool.not_eq_true', Bool.not_eq_false', Bool.and_eq_true, Bool.or_eq_true, Bool.and_eq_false_iff, Bool.or_eq_false_iff, beq_iff_eq, bne_iff_ne, beq_eq_false_iff_ne, bne_eq_false_iff_eq, ne_eq, Decidable.not_not, Bool.decide_eq_true] at h5_
            first | refine al_gyes rfl rfl rfl rfl rfl (ao_mv (v := .slice _ _ _) rfl) ?_ | refine al_gyes rfl rfl rfl rfl rfl (ao_mv (v := v) rfl) ?_
            first | refine al_gyes rfl rfl rfl rfl rfl (ao_mv (v := .slice _ _ _) rfl) ?_ | refine al_gyes rfl rfl rfl rfl rfl (ao_mv (v := v) rfl) ?_
            refine al_gyes rfl rfl rfl rfl rfl (ao_calld (eqFile_c (l := (l ++ [s])) (m := (l ++ [s])) (Sl.full spot_len (by ((repeat (first | exact blk_push_new _ _ | assumption | apply blk_push_old | apply blk_set_same | refine (blk_set_ne (by first | assumption | omega | (simp only [next_push, next_set, next_kill, ne_eq]; omega))).trans ?_ | refine (blk_kill_ne (by first | assumption | omega | (simp only [next_push, next_set, next_kill, ne_eq]; omega))).trans ?_)); (first | done | fail))) rfl rfl rfl) (Sl.full spot_len (by ((repeat (first | exact blk_push_new _ _ | assumption | apply blk_push_old | apply blk_set_same | refine (blk_set_ne (by first | assumption | omega | (simp only [next_push, next_set, next_kill, ne_eq]; omega))).trans ?_ | refine (blk_kill_ne (by first | assumption | omega | (simp only [next_push, next_set, next_kill, ne_eq]; omega))).trans ?_)); (first | done | fail))) rfl rfl rfl) (by omega)) Try.call21 rfl rfl) ?_
            refine al_gyes rfl rfl rfl rfl rfl (ao_not rfl) ?_
            refine al_opd rfl rfl rfl (ao_pickF rfl (v := .bool _) rfl) ?_
            refine al_opd rfl rfl rfl (ao_mv (v := .bool _) rfl) ?_
            refine al_cases (d := 69) rfl (fun h6_ => ?_) (fun h6_ => ?_)
            · try simp only [decide_eq_true_eq, decide_eq_false_iff_not, Bool.not_eq_true', Bool.not_eq_false', Bool.and_eq_true, Bool.or_eq_true, Bool.and_eq_false_iff, Bool.or_eq_false_iff, beq_iff_eq, bne_iff_ne, beq_eq_false_iff_ne, bne_eq_false_iff_eq, ne_eq, Decidable.not_not, Bool.decide_eq_true] at h6_
              first | done | omega | (exfalso; revert h6_; simp; (first | done | omega))
            · try simp only [decide_eq_true_eq, decide_eq_false_iff_not, Bool.not_eq_true', Bool.not_eq_false', Bool.and_eq_true, Bool.or_eq_true, Bool.and_eq_false_iff, Bool.or_eq_false_iff, beq_iff_eq, bne_iff_ne, beq_eq_false_iff_ne, bne_eq_false_iff_eq, ne_eq, Decidable.not_not, Bool.decide_eq_true] at h6_
              refine al_gyes rfl rfl rfl rfl rfl (ao_mv (v := .int _ _) rfl) ?_
              refine al_gyes rfl rfl rfl rfl rfl (ao_mv (v := .int _ _) rfl) ?_
              refine al_gyes rfl rfl rfl rfl rfl (ao_neq rfl rfl) ?_
              refine al_opd rfl rfl rfl (ao_pickF rfl (v := .bool _) rfl) ?_
              refine al_nilT ?_
              refine aw_cond rfl (fun h7_ => ?_) (fun h7_ => ?_)
              · try simp only [decide_eq_true_eq, decide_eq_false_iff_not, Bool.not_eq_true', Bool.not_eq_false', Bool.and_eq_true, Bool.or_eq_true, Bool.and_eq_false_iff, Bool.or_eq_false_iff, beq_iff_eq, bne_iff_ne, beq_eq_false_iff_ne, bne_eq_false_iff_eq, ne_eq, Decidable.not_not, Bool.decide_eq_true] at h7_
                first | done | omega | (exfalso; revert h7_; simp; (first | done | omega))
              · try simp only [decide_eq_true_eq, decide_eq_false_iff_not, Bool.not_eq_true', Bool.not_eq_false', Bool.and_eq_true, Bool.or_eq_true, Bool.and_eq_false_iff, Bool.or_eq_false_iff, beq_iff_eq, bne_iff_ne, beq_eq_false_iff_ne, bne_eq_false_iff_eq, ne_eq, Decidable.not_not, Bool.decide_eq_true] at h7_
                refine aw_skipT ?_
                refine aw_seq ?_
                refine aw_region ?_
                refine al_opd rfl rfl rfl (ao_as (v := .int _ _) rfl) ?_
                refine al_nilT ?_
                refine aw_seq ?_
                refine aw_region ?_
                first | refine al_opd rfl rfl rfl (ao_mv (v := .slice _ _ _) rfl) ?_ | refine al_opd rfl rfl rfl (ao_mv (v := v) rfl) ?_
                refine al_opd rfl rfl rfl (ao_mv (v := .int _ _) rfl) ?_
                refine al_opd rfl rfl rfl ((ao_calld (mark_file_c (l := (l ++ [s])) (k := 1) (by ((repeat (first | exact blk_push_new _ _ | assumption | apply blk_push_old | apply blk_set_same | refine (blk_set_ne (by first | assumption | omega | (simp only [next_push, next_set, next_kill, ne_eq]; omega))).trans ?_ | refine (blk_kill_ne (by first | assumption | omega | (simp only [next_push, next_set, next_kill, ne_eq]; omega))).trans ?_)); (first | done | fail))) (by omega) (by omega)) Try.call41 rfl rfl).to (SetR.eq (by (repeat (first | exact SetR.new | exact SetR.same | (apply SetR.old; · exact ⟨_, by ((repeat (first | exact blk_push_new _ _ | assumption | apply blk_push_old | apply blk_set_same | refine (blk_set_ne (by first | assumption | omega | (simp only [next_push, next_set, next_kill, ne_eq]; omega))).trans ?_ | refine (blk_kill_ne (by first | assumption | omega | (simp only [next_push, next_set, next_kill, ne_eq]; omega))).trans ?_)); (first | done | fail))⟩) | exact SetR.base))))) ?_
                refine al_opd rfl rfl rfl (ao_as (v := .int _ _) rfl) ?_
                refine al_nilT ?_
                refine aw_seq ?_
                refine aw_region ?_
                refine al_opd rfl rfl rfl (ao_as (v := .int _ _) rfl) ?_
                refine al_nilT ?_
                refine aw_seq ?_
                refine aw_region ?_
                first | refine al_opd rfl rfl rfl (ao_mv (v := .slice _ _ _) rfl) ?_ | refine al_opd rfl rfl rfl (ao_mv (v := v) rfl) ?_
                refine al_opd rfl rfl rfl (ao_mv (v := .int _ _) rfl) ?_
                refine al_opd rfl rfl rfl (ao_calld (held_file_c (n := (l ++ [s]).length) (k := 1) (Sl.full spot_len (by ((repeat (first | exact blk_push_new _ _ | assumption | apply blk_push_old | apply blk_set_same | refine (blk_set_ne (by first | assumption | omega | (simp only [next_push, next_set, next_kill, ne_eq]; omega))).trans ?_ | refine (blk_kill_ne (by first | assumption | omega | (simp only [next_push, next_set, next_kill, ne_eq]; omega))).trans ?_)); (first | done | fail))) rfl rfl (mkSpot_len _ _).symm) (by omega) (by omega)) Try.call42 rfl rfl) ?_
                refine al_opd rfl rfl rfl (ao_as (v := .int _ _) rfl) ?_
                refine al_nilT ?_
                refine aw_seq ?_
                refine aw_seq ?_
                refine aw_region ?_
                refine al_opd rfl rfl rfl (ao_mv (v := .int _ _) rfl) ?_
                refine al_opd rfl rfl rfl (ao_lss rfl rfl) ?_
                refine al_nilT ?_
                refine aw_cond rfl (fun h8_ => ?_) (fun h8_ => ?_)
                · try simp only [decide_eq_true_eq, decide_eq_false_iff_not, Bool.not_eq_true', Bool.not_eq_false', Bool.and_eq_true, Bool.or_eq_true, Bool.and_eq_false_iff, Bool.or_eq_false_iff, beq_iff_eq, bne_iff_ne, beq_eq_false_iff_ne, bne_eq_false_iff_eq, ne_eq, Decidable.not_not, Bool.decide_eq_true] at h8_
                  first | done | omega | (exfalso; revert h8_; simp; (first | done | omega))
                · try simp only [decide_eq_true_eq, decide_eq_false_iff_not, Bool.not_eq_true', Bool.not_eq_false', Bool.and_eq_true, Bool.or_eq_true, Bool.and_eq_false_iff, Bool.or_eq_false_iff, beq_iff_eq, bne_iff_ne, beq_eq_false_iff_ne, bne_eq_false_iff_eq, ne_eq, Decidable.not_not, Bool.decide_eq_true] at h8_
                  refine aw_skipT ?_
                  refine aw_seq ?_
                  refine aw_seq ?_
                  refine aw_region ?_
                  refine al_opd rfl rfl rfl (ao_mv (v := .int _ _) rfl) ?_
                  refine al_opd rfl rfl rfl (ao_mv (v := .int _ _) rfl) ?_
                  refine al_opd rfl rfl rfl (ao_neq rfl rfl) ?_
                  refine al_nilT ?_
                  refine aw_cond rfl (fun h9_ => ?_) (fun h9_ => ?_)
                  · try simp only [decide_eq_true_eq, decide_eq_false_iff_not, Bool.not_eq_true', Bool.not_eq_false', Bool.and_eq_true, Bool.or_eq_true, Bool.and_eq_false_iff, Bool.or_eq_false_iff, beq_iff_eq, bne_iff_ne, beq_eq_false_iff_ne, bne_eq_false_iff_eq, ne_eq, Decidable.not_not, Bool.decide_eq_true] at h9_
                    first | done | omega | (exfalso; revert h9_; simp; (first | done | omega))
                  · try simp only [decide_eq_true_eq, decide_eq_false_iff_not, Bool.not_eq_true', Bool.not_eq_false', Bool.and_eq_true, Bool.or_eq_true, Bool.and_eq_false_iff, Bool.or_eq_false_iff, beq_iff_eq, bne_iff_ne, beq_eq_false_iff_ne, bne_eq_false_iff_eq, ne_eq, Decidable.not_not, Bool.decide_eq_true] at h9_
                    refine aw_skipT ?_
                    refine aw_seq ?_
                    refine aw_draw (m := 12) mo (by kernel_rfl) rfl (fun _ _ _ h => h) ?_
                    refine dw_opd rfl rfl rfl (ao_loada Try.isAgg42 Try.sizeOf42 rfl (by ((repeat (first | exact blk_push_new _ _ | assumption | apply blk_push_old | apply blk_set_same | refine (blk_set_ne (by first | assumption | omega | (simp only [next_push, next_set, next_kill, ne_eq]; omega))).trans ?_ | refine (blk_kill_ne (by first | assumption | omega | (simp only [next_push, next_set, next_kill, ne_eq]; omega))).trans ?_)); (first | done | fail))) (by rfl) (by first | rfl | (simp; (first | done | fail)))) ?_
                    refine dw_opd rfl rfl rfl (ao_calld (toRoom_c (r := r)) Try.call31 rfl rfl) ?_
                    first | refine dw_opd rfl rfl rfl (ao_mv (v := .slice _ _ _) rfl) ?_ | refine dw_opd rfl rfl rfl (ao_mv (v := v) rfl) ?_
                    refine dw_opn rfl rfl rfl (ao_calld (toFile_c (v := v) (l := l) (ha.mono (by (repeat (first | exact Same.refl _ _ | assumption | refine Same.push ?_ (by (first | exact Nat.le_refl _ | omega | (simp only [next_push, next_set, next_kill]; omega))) _ | refine Same.set ?_ (by (first | exact Nat.le_refl _ | omega | (simp only [next_push, next_set, next_kill]; omega))) _ | refine Same.kill ?_ (by (first | exact Nat.le_refl _ | omega | (simp only [next_push, next_set, next_kill]; omega))))))) (by omega)) Try.call19 rfl rfl) ?_
                    refine dw_opd rfl rfl rfl (ao_loada Try.isAgg61 Try.sizeOf61 rfl (by ((repeat (first | exact blk_push_new _ _ | assumption | apply blk_push_old | apply blk_set_same | refine (blk_set_ne (by first | assumption | omega | (simp only [next_push, next_set, next_kill, ne_eq]; omega))).trans ?_ | refine (blk_kill_ne (by first | assumption | omega | (simp only [next_push, next_set, next_kill, ne_eq]; omega))).trans ?_)); (first | done | fail))) (by rfl) (by first | rfl | (simp; (first | done | fail)))) ?_
                    refine dw_opd rfl rfl rfl (ao_calld (toSpot_c (s := s)) Try.call50 rfl rfl) ?_
                    refine dw_opn rfl rfl rfl (ao_calld (implAdd1_c (l := l) (r := r) (by ((repeat (first | exact blk_push_new _ _ | assumption | apply blk_push_old | apply blk_set_same | refine (blk_set_ne (by first | assumption | omega | (simp only [next_push, next_set, next_kill, ne_eq]; omega))).trans ?_ | refine (blk_kill_ne (by first | assumption | omega | (simp only [next_push, next_set, next_kill, ne_eq]; omega))).trans ?_)); (first | done | fail))) (by omega) (by omega) hw hsp hs hv h12 hf) Try.call51 rfl rfl) ?_
                    refine dw_opd rfl rfl rfl (ao_mv (v := .tuple _) rfl) ?_
                    refine dw_opd rfl rfl rfl (ao_extract (v := .slice _ _ _) rfl rfl) ?_
                    refine dw_opd rfl rfl rfl (ao_extract (v := .int _ _) rfl rfl) ?_
                    first | refine dw_opd rfl rfl rfl (ao_as (v := .slice _ _ _) rfl) ?_ | refine dw_opd rfl rfl rfl (ao_as (v := v) rfl) ?_
                    refine dw_opd rfl rfl rfl (ao_as (v := .int _ _) rfl) ?_
                    refine dw_end ?_
                    refine al_nilT ?_
                    refine aw_seq ?_
                    refine aw_seq ?_
                    refine aw_region ?_
                    first | refine al_opd rfl rfl rfl (ao_mv (v := .slice _ _ _) rfl) ?_ | refine al_opd rfl rfl rfl (ao_mv (v := v) rfl) ?_
                    first | refine al_opd rfl rfl rfl (ao_mv (v := .slice _ _ _) rfl) ?_ | refine al_opd rfl rfl rfl (ao_mv (v := v) rfl) ?_
                    refine al_opd rfl rfl rfl (ao_calld (eqFile_c (l := (l ++ [s])) (m := (l ++ [s])) (Sl.full spot_len (by ((repeat (first | exact blk_push_new _ _ | assumption | apply blk_push_old | apply blk_set_same | refine (blk_set_ne (by first | assumption | omega | (simp only [next_push, next_set, next_kill, ne_eq]; omega))).trans ?_ | refine (blk_kill_ne (by first | assumption | omega | (simp only [next_push, next_set, next_kill, ne_eq]; omega))).trans ?_)); (first | done | fail))) rfl rfl rfl) (Sl.full spot_len (by ((repeat (first | exact blk_push_new _ _ | assumption | apply blk_push_old | apply blk_set_same | refine (blk_set_ne (by first | assumption | omega | (simp only [next_push, next_set, next_kill, ne_eq]; omega))).trans ?_ | refine (blk_kill_ne (by first | assumption | omega | (simp only [next_push, next_set, next_kill, ne_eq]; omega))).trans ?_)); (first | done | fail))) rfl rfl rfl) (by omega)) Try.call21 rfl rfl) ?_
                    refine al_opd rfl rfl rfl (ao_not rfl) ?_
                    refine al_opd rfl rfl rfl (ao_mv (v := .bool _) rfl) ?_
                    refine al_cases (d := 99) rfl (fun h10_ => ?_) (fun h10_ => ?_)
                    · try simp only [decide_eq_true_eq, decide_eq_false_iff_not, Bool.not_eq_true', Bool.not_eq_false', Bool.and_eq_true, Bool.or_eq_true, Bool.and_eq_false_iff, Bool.or_eq_false_iff, beq_iff_eq, bne_iff_ne, beq_eq_false_iff_ne, bne_eq_false_iff_eq, ne_eq, Decidable.not_not, Bool.decide_eq_true] at h10_
                      first | done | omega | (exfalso; revert h10_; simp; (first | done | omega))
                    · try simp only [decide_eq_true_eq, decide_eq_false_iff_not, Bool.not_eq_true', Bool.not_eq_false', Bool.and_eq_true, Bool.or_eq_true, Bool.and_eq_false_iff, Bool.or_eq_false_iff, beq_iff_eq, bne_iff_ne, beq_eq_false_iff_ne, bne_eq_false_iff_eq, ne_eq, Decidable.not_not, Bool.decide_eq_true] at h10_
                      refine al_gyes rfl rfl rfl rfl rfl (ao_mv (v := .int _ _) rfl) ?_
                      refine al_gyes rfl rfl rfl rfl rfl (ao_mv (v := .int _ _) rfl) ?_
                      refine al_gyes rfl rfl rfl rfl rfl (ao_neq rfl rfl) ?_
                      refine al_opd rfl rfl rfl (ao_pickF rfl (v := .bool _) rfl) ?_
                      refine al_nilT ?_
                      refine aw_cond rfl (fun h11_ => ?_) (fun h11_ => ?_)
                      · try simp only [decide_eq_true_eq, decide_eq_false_iff_not, Bool.not_eq_true', Bool.not_eq_false', Bool.and_eq_true, Bool.or_eq_true, Bool.and_eq_false_iff, Bool.or_eq_false_iff, beq_iff_eq, bne_iff_ne, beq_eq_false_iff_ne, bne_eq_false_iff_eq, ne_eq, Decidable.not_not, Bool.decide_eq_true] at h11_
                        first | done | omega | (exfalso; revert h11_; simp; (first | done | omega))
                      · try simp only [decide_eq_true_eq, decide_eq_false_iff_not, Bool.not_eq_true', Bool.not_eq_false', Bool.and_eq_true, Bool.or_eq_true, Bool.and_eq_false_iff, Bool.or_eq_false_iff, beq_iff_eq, bne_iff_ne, beq_eq_false_iff_ne, bne_eq_false_iff_eq, ne_eq, Decidable.not_not, Bool.decide_eq_true] at h11_
                        refine aw_skipT ?_
                        refine aw_seq ?_
                        refine aw_region ?_
                        refine al_opd rfl rfl rfl (ao_as (v := .int _ _) rfl) ?_
                        refine al_nilT ?_
                        refine aw_seq ?_
                        refine aw_region ?_
                        first | refine al_opd rfl rfl rfl (ao_mv (v := .slice _ _ _) rfl) ?_ | refine al_opd rfl rfl rfl (ao_mv (v := v) rfl) ?_
                        refine al_opd rfl rfl rfl (ao_mv (v := .int _ _) rfl) ?_
                        refine al_opd rfl rfl rfl (ao_calld (held_file_c (n := (l ++ [s]).length) (k := 1) (Sl.full spot_len (by ((repeat (first | exact blk_push_new _ _ | assumption | apply blk_push_old | apply blk_set_same | refine (blk_set_ne (by first | assumption | omega | (simp only [next_push, next_set, next_kill, ne_eq]; omega))).trans ?_ | refine (blk_kill_ne (by first | assumption | omega | (simp only [next_push, next_set, next_kill, ne_eq]; omega))).trans ?_)); (first | done | fail))) rfl rfl (mkSpot_len _ _).symm) (by omega) (by omega)) Try.call42 rfl rfl) ?_
                        refine al_opd rfl rfl rfl (ao_as (v := .int _ _) rfl) ?_
                        refine al_nilT ?_
                        refine aw_seq ?_
                        refine aw_seq ?_
                        refine aw_region ?_
                        refine al_opd rfl rfl rfl (ao_mv (v := .int _ _) rfl) ?_
                        refine al_opd rfl rfl rfl (ao_lss rfl rfl) ?_
                        refine al_nilT ?_
                        refine aw_cond rfl (fun h12_ => ?_) (fun h12_ => ?_)
                        · try simp only [decide_eq_true_eq, decide_eq_false_iff_not, Bool.not_eq_true', Bool.not_eq_false', Bool.and_eq_true, Bool.or_eq_true, Bool.and_eq_false_iff, Bool.or_eq_false_iff, beq_iff_eq, bne_iff_ne, beq_eq_false_iff_ne, bne_eq_false_iff_eq, ne_eq, Decidable.not_not, Bool.decide_eq_true] at h12_
                          first | done | omega | (exfalso; revert h12_; simp; (first | done | omega))
                        · try simp only [decide_eq_true_eq, decide_eq_false_iff_not, Bool.not_eq_true', Bool.not_eq_false', Bool.and_eq_true, Bool.or_eq_true, Bool.and_eq_false_iff, Bool.or_eq_false_iff, beq_iff_eq, bne_iff_ne, beq_eq_false_iff_ne, bne_eq_false_iff_eq, ne_eq, Decidable.not_not, Bool.decide_eq_true] at h12_
                          refine aw_skipT ?_
                          refine aw_seq ?_
                          refine aw_seq ?_
                          refine aw_region ?_
                          refine al_opd rfl rfl rfl (ao_mv (v := .int _ _) rfl) ?_
                          refine al_opd rfl rfl rfl (ao_mv (v := .int _ _) rfl) ?_
                          refine al_opd rfl rfl rfl (ao_neq rfl rfl) ?_
                          refine al_nilT ?_
                          refine aw_cond rfl (fun h13_ => ?_) (fun h13_ => ?_)
                          · try simp only [decide_eq_true_eq, decide_eq_false_iff_not, Bool.not_eq_true', Bool.not_eq_false', Bool.and_eq_true, Bool.or_eq_true, Bool.and_eq_false_iff, Bool.or_eq_false_iff, beq_iff_eq, bne_iff_ne, beq_eq_false_iff_ne, bne_eq_false_iff_eq, ne_eq, Decidable.not_not, Bool.decide_eq_true] at h13_
                            first | done | omega | (exfalso; revert h13_; simp; (first | done | omega))
                          · try simp only [decide_eq_true_eq, decide_eq_false_iff_not, Bool.not_eq_true', Bool.not_eq_false', Bool.and_eq_true, Bool.or_eq_true, Bool.and_eq_false_iff, Bool.or_eq_false_iff, beq_iff_eq, bne_iff_ne, beq_eq_false_iff_ne, bne_eq_false_iff_eq, ne_eq, Decidable.not_not, Bool.decide_eq_true] at h13_
                            refine aw_skipT ?_
                            refine aw_seq ?_
                            refine aw_region ?_
                            refine al_opd rfl rfl rfl (ao_as (v := .bool _) rfl) ?_
                            refine al_nilT ?_
                            refine aw_ret ?_
                            refine ends1 rfl (rv_tmp (v := .bool _) rfl) ?_
                            exact ⟨by first | rfl | (simp [*]; (first | done | fail)), by (repeat (first | exact Same.refl _ _ | assumption | refine Same.push ?_ (by (first | exact Nat.le_refl _ | omega | (simp only [next_push, next_set, next_kill]; omega))) _ | refine Same.set ?_ (by (first | exact Nat.le_refl _ | omega | (simp only [next_push, next_set, next_kill]; omega))) _ | refine Same.kill ?_ (by (first | exact Nat.le_refl _ | omega | (simp only [next_push, next_set, next_kill]; omega)))))⟩

-- laws.FnExactAddPerson
theorem lawAdd4_c {r : Room} {v : Value} {l : List Spot} {s : Spot} {H : AHeap} (hw : wfRoom r) (ha : Sl H spot 2 v l) (hl : l.length ≤ 9223372036854775807) (hsp : wfSpots l) (hs : wfSpot s) (hv : okFile r l) (h12 : l.length ≠ 12) (hf : ¬ fileOk r (l ++ [s])) : ACd Try.prog 14 [.agg (roomC r).toArray, v, .agg #[.int .i8 s.x, .int .i8 s.y]] H (.bool true) (H) := by
  refine ac_gc0 (fun β => VR.plainT β (by first | rfl | simp [plainT, plainV, plain1])) (ac_body Try.func14 rfl Try.ntmps14 rfl ?_)
  refine aw_seq ?_
  refine aw_region ?_
  refine al_opd rfl rfl rfl (ao_boxa (by rfl)) ?_
  refine al_opd rfl rfl rfl (ao_boxa (by rfl)) ?_
  refine al_opd rfl rfl rfl (ao_as (v := .bool _) rfl) ?_
  refine al_nilT ?_
  refine aw_seq ?_
  refine aw_region ?_
  refine al_opd rfl rfl rfl (ao_as (v := .int _ _) rfl) ?_
  refine al_nilT ?_
  refine aw_seq ?_
  refine aw_region ?_
  first | refine al_opd rfl rfl rfl (ao_mv (v := .slice _ _ _) rfl) ?_ | refine al_opd rfl rfl rfl (ao_mv (v := v) rfl) ?_
  refine al_opd rfl rfl rfl (ao_mv (v := .int _ _) rfl) ?_
  refine al_opd rfl rfl rfl (ao_calld (szFile_c (v := v) (l := l) (k := 1048576) (ha.mono (by (repeat (first | exact Same.refl _ _ | assumption | refine Same.push ?_ (by (first | exact Nat.le_refl _ | omega | (simp only [next_push, next_set, next_kill]; omega))) _ | refine Same.set ?_ (by (first | exact Nat.le_refl _ | omega | (simp only [next_push, next_set, next_kill]; omega))) _ | refine Same.kill ?_ (by (first | exact Nat.le_refl _ | omega | (simp only [next_push, next_set, next_kill]; omega))))))) hl (by omega)) Try.call17 rfl rfl) ?_
  refine al_opd rfl rfl rfl (ao_as (v := .int _ _) rfl) ?_
  refine al_nilT ?_
  refine aw_seq ?_
  refine aw_seq ?_
  refine aw_region ?_
  refine al_opd rfl rfl rfl (ao_mv (v := .int _ _) rfl) ?_
  refine al_opd rfl rfl rfl (ao_lss rfl rfl) ?_
  refine al_nilT ?_
  refine aw_cond rfl (fun h1_ => ?_) (fun h1_ => ?_)
  · try simp only [decide_eq_true_eq, decide_eq_false_iff_not, Bool.not_eq_true', Bool.not_eq_false', Bool.and_eq_true, Bool.or_eq_true, Bool.and_eq_false_iff, Bool.or_eq_false_iff, beq_iff_eq, bne_iff_ne, beq_eq_false_iff_ne, bne_eq_false_iff_eq, ne_eq, Decidable.not_not, Bool.decide_eq_true] at h1_
    refine aw_seq ?_
    refine aw_region ?_
    refine al_opd rfl rfl rfl (ao_as (v := .bool _) rfl) ?_
    refine al_nilT ?_
    refine aw_ret ?_
    refine thenA_r ?_
    refine ends1 rfl (rv_tmp (v := .bool _) rfl) ?_
    exact ⟨by first | rfl | (simp [*]; (first | done | fail)), by (repeat (first | exact Same.refl _ _ | assumption | refine Same.push ?_ (by (first | exact Nat.le_refl _ | omega | (simp only [next_push, next_set, next_kill]; omega))) _ | refine Same.set ?_ (by (first | exact Nat.le_refl _ | omega | (simp only [next_push, next_set, next_kill]; omega))) _ | refine Same.kill ?_ (by (first | exact Nat.le_refl _ | omega | (simp only [next_push, next_set, next_kill]; omega)))))⟩
  · try simp only [decide_eq_true_eq, decide_eq_false_iff_not, Bool.not_eq_true', Bool.not_eq_false', Bool.and_eq_true, Bool.or_eq_true, Bool.and_eq_false_iff, Bool.or_eq_false_iff, beq_iff_eq, bne_iff_ne, beq_eq_false_iff_ne, bne_eq_false_iff_eq, ne_eq, Decidable.not_not, Bool.decide_eq_true] at h1_
    have hl1 : l.length ≤ 1048576 := by omega
    refine aw_skipT ?_
    refine aw_seq ?_
    refine aw_draw (m := 12) mo (by kernel_rfl) rfl (fun _ _ _ h => h) ?_
    refine dw_opd rfl rfl rfl (ao_loada Try.isAgg42 Try.sizeOf42 rfl (by ((repeat (first | exact blk_push_new _ _ | assumption | apply blk_push_old | apply blk_set_same | refine (blk_set_ne (by first | assumption | omega | (simp only [next_push, next_set, next_kill, ne_eq]; omega))).trans ?_ | refine (blk_kill_ne (by first | assumption | omega | (simp only [next_push, next_set, next_kill, ne_eq]; omega))).trans ?_)); (first | done | fail))) (by rfl) (by first | rfl | (simp; (first | done | fail)))) ?_
    refine dw_opd rfl rfl rfl (ao_calld (toRoom_c (r := r)) Try.call31 rfl rfl) ?_
    first | refine dw_opd rfl rfl rfl (ao_mv (v := .slice _ _ _) rfl) ?_ | refine dw_opd rfl rfl rfl (ao_mv (v := v) rfl) ?_
    refine dw_opn rfl rfl rfl (ao_calld (toFile_c (v := v) (l := l) (ha.mono (by (repeat (first | exact Same.refl _ _ | assumption | refine Same.push ?_ (by (first | exact Nat.le_refl _ | omega | (simp only [next_push, next_set, next_kill]; omega))) _ | refine Same.set ?_ (by (first | exact Nat.le_refl _ | omega | (simp only [next_push, next_set, next_kill]; omega))) _ | refine Same.kill ?_ (by (first | exact Nat.le_refl _ | omega | (simp only [next_push, next_set, next_kill]; omega))))))) (by omega)) Try.call19 rfl rfl) ?_
    refine dw_opd rfl rfl rfl (ao_loada Try.isAgg61 Try.sizeOf61 rfl (by ((repeat (first | exact blk_push_new _ _ | assumption | apply blk_push_old | apply blk_set_same | refine (blk_set_ne (by first | assumption | omega | (simp only [next_push, next_set, next_kill, ne_eq]; omega))).trans ?_ | refine (blk_kill_ne (by first | assumption | omega | (simp only [next_push, next_set, next_kill, ne_eq]; omega))).trans ?_)); (first | done | fail))) (by rfl) (by first | rfl | (simp; (first | done | fail)))) ?_
    refine dw_opd rfl rfl rfl (ao_calld (toSpot_c (s := s)) Try.call50 rfl rfl) ?_
    refine dw_opn rfl rfl rfl (ao_calld (specAdd4_c (l := l) (r := r) (by ((repeat (first | exact blk_push_new _ _ | assumption | apply blk_push_old | apply blk_set_same | refine (blk_set_ne (by first | assumption | omega | (simp only [next_push, next_set, next_kill, ne_eq]; omega))).trans ?_ | refine (blk_kill_ne (by first | assumption | omega | (simp only [next_push, next_set, next_kill, ne_eq]; omega))).trans ?_)); (first | done | fail))) (by omega) (by omega) hw hsp hs hv h12 hf) Try.call49 rfl rfl) ?_
    refine dw_opd rfl rfl rfl (ao_mv (v := .tuple _) rfl) ?_
    refine dw_opd rfl rfl rfl (ao_extract (v := .slice _ _ _) rfl rfl) ?_
    refine dw_opd rfl rfl rfl (ao_extract (v := .int _ _) rfl rfl) ?_
    first | refine dw_opd rfl rfl rfl (ao_as (v := .slice _ _ _) rfl) ?_ | refine dw_opd rfl rfl rfl (ao_as (v := v) rfl) ?_
    refine dw_opd rfl rfl rfl (ao_as (v := .int _ _) rfl) ?_
    refine dw_end ?_
    refine al_nilT ?_
    refine aw_seq ?_
    refine aw_region ?_
    first | refine al_opd rfl rfl rfl (ao_mv (v := .slice _ _ _) rfl) ?_ | refine al_opd rfl rfl rfl (ao_mv (v := v) rfl) ?_
    refine al_opd rfl rfl rfl (ao_calld (toFile_c (v := v) (l := l) (ha.mono (by (repeat (first | exact Same.refl _ _ | assumption | refine Same.push ?_ (by (first | exact Nat.le_refl _ | omega | (simp only [next_push, next_set, next_kill]; omega))) _ | refine Same.set ?_ (by (first | exact Nat.le_refl _ | omega | (simp only [next_push, next_set, next_kill]; omega))) _ | refine Same.kill ?_ (by (first | exact Nat.le_refl _ | omega | (simp only [next_push, next_set, next_kill]; omega))))))) (by omega)) Try.call19 rfl rfl) ?_
    first | refine al_opd rfl rfl rfl (ao_as (v := .slice _ _ _) rfl) ?_ | refine al_opd rfl rfl rfl (ao_as (v := v) rfl) ?_
    refine al_nilT ?_
    refine aw_seq ?_
    refine aw_draw (m := 11) mo (by kernel_rfl) rfl (fun _ _ _ h => h) ?_
    refine dw_opd rfl rfl rfl (ao_loada Try.isAgg42 Try.sizeOf42 rfl (by ((repeat (first | exact blk_push_new _ _ | assumption | apply blk_push_old | apply blk_set_same | refine (blk_set_ne (by first | assumption | omega | (simp only [next_push, next_set, next_kill, ne_eq]; omega))).trans ?_ | refine (blk_kill_ne (by first | assumption | omega | (simp only [next_push, next_set, next_kill, ne_eq]; omega))).trans ?_)); (first | done | fail))) (by rfl) (by first | rfl | (simp; (first | done | fail)))) ?_
    refine dw_opd rfl rfl rfl (ao_calld (toRoom_c (r := r)) Try.call31 rfl rfl) ?_
    first | refine dw_opd rfl rfl rfl (ao_mv (v := .slice _ _ _) rfl) ?_ | refine dw_opd rfl rfl rfl (ao_mv (v := v) rfl) ?_
    refine dw_opd rfl rfl rfl (ao_loada Try.isAgg61 Try.sizeOf61 rfl (by ((repeat (first | exact blk_push_new _ _ | assumption | apply blk_push_old | apply blk_set_same | refine (blk_set_ne (by first | assumption | omega | (simp only [next_push, next_set, next_kill, ne_eq]; omega))).trans ?_ | refine (blk_kill_ne (by first | assumption | omega | (simp only [next_push, next_set, next_kill, ne_eq]; omega))).trans ?_)); (first | done | fail))) (by rfl) (by first | rfl | (simp; (first | done | fail)))) ?_
    refine dw_opd rfl rfl rfl (ao_calld (toSpot_c (s := s)) Try.call50 rfl rfl) ?_
    refine dw_opd rfl rfl rfl (ao_calld (implAdd4_c (l := l) (r := r) (by ((repeat (first | exact blk_push_new _ _ | assumption | apply blk_push_old | apply blk_set_same | refine (blk_set_ne (by first | assumption | omega | (simp only [next_push, next_set, next_kill, ne_eq]; omega))).trans ?_ | refine (blk_kill_ne (by first | assumption | omega | (simp only [next_push, next_set, next_kill, ne_eq]; omega))).trans ?_)); (first | done | fail))) (by omega) (by omega) hw hsp hs hv h12 hf) Try.call51 rfl rfl) ?_
    refine dw_opd rfl rfl rfl (ao_mv (v := .tuple _) rfl) ?_
    refine dw_opd rfl rfl rfl (ao_extract (v := .slice _ _ _) rfl rfl) ?_
    refine dw_opd rfl rfl rfl (ao_extract (v := .int _ _) rfl rfl) ?_
    first | refine dw_opd rfl rfl rfl (ao_as (v := .slice _ _ _) rfl) ?_ | refine dw_opd rfl rfl rfl (ao_as (v := v) rfl) ?_
    refine dw_opd rfl rfl rfl (ao_as (v := .int _ _) rfl) ?_
    refine dw_end ?_
    refine al_nilT ?_
    refine aw_seq ?_
    refine aw_seq ?_
    refine aw_region ?_
    first | refine al_opd rfl rfl rfl (ao_mv (v := .slice _ _ _) rfl) ?_ | refine al_opd rfl rfl rfl (ao_mv (v := v) rfl) ?_
    first | refine al_opd rfl rfl rfl (ao_mv (v := .slice _ _ _) rfl) ?_ | refine al_opd rfl rfl rfl (ao_mv (v := v) rfl) ?_
    refine al_opd rfl rfl rfl (ao_calld (eqFile_c (l := []) (m := []) Sl.nil Sl.zero (by simp)) Try.call21 rfl rfl) ?_
    refine al_opd rfl rfl rfl (ao_not rfl) ?_
    refine al_opd rfl rfl rfl (ao_mv (v := .bool _) rfl) ?_
    refine al_cases (d := 48) rfl (fun h2_ => ?_) (fun h2_ => ?_)
    · try simp only [decide_eq_true_eq, decide_eq_false_iff_not, Bool.not_eq_true', Bool.not_eq_false', Bool.and_eq_true, Bool.or_eq_true, Bool.and_eq_false_iff, Bool.or_eq_false_iff, beq_iff_eq, bne_iff_ne, beq_eq_false_iff_ne, bne_eq_false_iff_eq, ne_eq, Decidable.not_not, Bool.decide_eq_true] at h2_
      first | done | omega | (exfalso; revert h2_; simp; (first | done | omega))
    · try simp only [decide_eq_true_eq, decide_eq_false_iff_not, Bool.not_eq_true', Bool.not_eq_false', Bool.and_eq_true, Bool.or_eq_true, Bool.and_eq_false_iff, Bool.or_eq_false_iff, beq_iff_eq, bne_iff_ne, beq_eq_false_iff_ne, bne_eq_false_iff_eq, ne_eq, Decidable.not_not, Bool.decide_eq_true] at h2_
      refine al_gyes rfl rfl rfl rfl rfl (ao_mv (v := .int _ _) rfl) ?_
      refine al_gyes rfl rfl rfl rfl rfl (ao_mv (v := .int _ _) rfl) ?_
      refine al_gyes rfl rfl rfl rfl rfl (ao_neq rfl rfl) ?_
      refine al_opd rfl rfl rfl (ao_pickF rfl (v := .bool _) rfl) ?_
      refine al_nilT ?_
      refine aw_cond rfl (fun h3_ => ?_) (fun h3_ => ?_)
      · try simp only [decide_eq_true_eq, decide_eq_false_iff_not, Bool.not_eq_true', Bool.not_eq_false', Bool.and_eq_true, Bool.or_eq_true, Bool.and_eq_false_iff, Bool.or_eq_false_iff, beq_iff_eq, bne_iff_ne, beq_eq_false_iff_ne, bne_eq_false_iff_eq, ne_eq, Decidable.not_not, Bool.decide_eq_true] at h3_
        first | done | omega | (exfalso; revert h3_; simp; (first | done | omega))
      · try simp only [decide_eq_true_eq, decide_eq_false_iff_not, Bool.not_eq_true', Bool.not_eq_false', Bool.and_eq_true, Bool.or_eq_true, Bool.and_eq_false_iff, Bool.or_eq_false_iff, beq_iff_eq, bne_iff_ne, beq_eq_false_iff_ne, bne_eq_false_iff_eq, ne_eq, Decidable.not_not, Bool.decide_eq_true] at h3_
        refine aw_skipT ?_
        refine aw_seq ?_
        refine aw_seq ?_
        refine aw_region ?_
        first | refine al_opd rfl rfl rfl (ao_mv (v := .slice _ _ _) rfl) ?_ | refine al_opd rfl rfl rfl (ao_mv (v := v) rfl) ?_
        first | refine al_opd rfl rfl rfl (ao_mv (v := .slice _ _ _) rfl) ?_ | refine al_opd rfl rfl rfl (ao_mv (v := v) rfl) ?_
        refine al_opd rfl rfl rfl (ao_calld (toFile_c (v := v) (l := l) (ha.mono (by (repeat (first | exact Same.refl _ _ | assumption | refine Same.push ?_ (by (first | exact Nat.le_refl _ | omega | (simp only [next_push, next_set, next_kill]; omega))) _ | refine Same.set ?_ (by (first | exact Nat.le_refl _ | omega | (simp only [next_push, next_set, next_kill]; omega))) _ | refine Same.kill ?_ (by (first | exact Nat.le_refl _ | omega | (simp only [next_push, next_set, next_kill]; omega))))))) (by omega)) Try.call19 rfl rfl) ?_
        refine al_opd rfl rfl rfl (ao_calld (eqFile_c (l := l) (m := l) (Sl.full spot_len (by ((repeat (first | exact blk_push_new _ _ | assumption | apply blk_push_old | apply blk_set_same | refine (blk_set_ne (by first | assumption | omega | (simp only [next_push, next_set, next_kill, ne_eq]; omega))).trans ?_ | refine (blk_kill_ne (by first | assumption | omega | (simp only [next_push, next_set, next_kill, ne_eq]; omega))).trans ?_)); (first | done | fail))) rfl rfl rfl) (Sl.full spot_len (by ((repeat (first | exact blk_push_new _ _ | assumption | apply blk_push_old | apply blk_set_same | refine (blk_set_ne (by first | assumption | omega | (simp only [next_push, next_set, next_kill, ne_eq]; omega))).trans ?_ | refine (blk_kill_ne (by first | assumption | omega | (simp only [next_push, next_set, next_kill, ne_eq]; omega))).trans ?_)); (first | done | fail))) rfl rfl rfl) (by omega)) Try.call21 rfl rfl) ?_
        refine al_opd rfl rfl rfl (ao_not rfl) ?_
        refine al_nilT ?_
        refine aw_cond rfl (fun h4_ => ?_) (fun h4_ => ?_)
        · try simp only [decide_eq_true_eq, decide_eq_false_iff_not, Bool.not_eq_true', Bool.not_eq_false', Bool.and_eq_true, Bool.or_eq_true, Bool.and_eq_false_iff, Bool.or_eq_false_iff, beq_iff_eq, bne_iff_ne, beq_eq_false_iff_ne, bne_eq_false_iff_eq, ne_eq, Decidable.not_not, Bool.decide_eq_true] at h4_
          first | done | omega | (exfalso; revert h4_; simp; (first | done | omega))
        · try simp only [decide_eq_true_eq, decide_eq_false_iff_not, Bool.not_eq_true', Bool.not_eq_false', Bool.and_eq_true, Bool.or_eq_true, Bool.and_eq_false_iff, Bool.or_eq_false_iff, beq_iff_eq, bne_iff_ne, beq_eq_false_iff_ne, bne_eq_false_iff_eq, ne_eq, Decidable.not_not, Bool.decide_eq_true] at h4_
          refine aw_skipT ?_
          refine aw_seq ?_
          refine aw_region ?_
          refine al_opd rfl rfl rfl (ao_as (v := .int _ _) rfl) ?_
          refine al_nilT ?_
          refine aw_seq ?_
          refine aw_region ?_
          first | refine al_opd rfl rfl rfl (ao_mv (v := .slice _ _ _) rfl) ?_ | refine al_opd rfl rfl rfl (ao_mv (v := v) rfl) ?_
          refine al_opd rfl rfl rfl (ao_mv (v := .int _ _) rfl) ?_
          refine al_opd rfl rfl rfl ((ao_calld (mark_file_c (l := l) (k := 1) (by ((repeat (first | exact blk_push_new _ _ | assumption | apply blk_push_old | apply blk_set_same | refine (blk_set_ne (by first | assumption | omega | (simp only [next_push, next_set, next_kill, ne_eq]; omega))).trans ?_ | refine (blk_kill_ne (by first | assumption | omega | (simp only [next_push, next_set, next_kill, ne_eq]; omega))).trans ?_)); (first | done | fail))) (by omega) (by omega)) Try.call41 rfl rfl).to (SetR.eq (by (repeat (first | exact SetR.new | exact SetR.same | (apply SetR.old; · exact ⟨_, by ((repeat (first | exact blk_push_new _ _ | assumption | apply blk_push_old | apply blk_set_same | refine (blk_set_ne (by first | assumption | omega | (simp only [next_push, next_set, next_kill, ne_eq]; omega))).trans ?_ | refine (blk_kill_ne (by first | assumption | omega | (simp only [next_push, next_set, next_kill, ne_eq]; omega))).trans ?_)); (first | done | fail))⟩) | exact SetR.base))))) ?_
          refine al_opd rfl rfl rfl (ao_as (v := .int _ _) rfl) ?_
          refine al_nilT ?_
          refine aw_seq ?_
          refine aw_seq ?_
          refine aw_region ?_
          refine al_opd rfl rfl rfl (ao_mv (v := .int _ _) rfl) ?_
          refine al_opd rfl rfl rfl (ao_lss rfl rfl) ?_
          refine al_opd rfl rfl rfl (ao_mv (v := .bool _) rfl) ?_
          refine al_cases (d := 63) rfl (fun h5_ => ?_) (fun h5_ => ?_)
          · try simp only [decide_eq_true_eq, decide_eq_false_iff_not, Bool.not_eq_true', Bool.not_eq_false', Bool.and_eq_true, Bool.or_eq_true, Bool.and_eq_false_iff, Bool.or_eq_false_iff, beq_iff_eq, bne_iff_ne, beq_eq_false_iff_ne, bne_eq_false_iff_eq, ne_eq, Decidable.not_not, Bool.decide_eq_true] at h5_
            first | done | omega | (exfalso; revert h5_; simp; (first | done | omega))
          · try simp only [decide_eq_true_eq, decide_eq_false_iff_not, Bool.not_eq_true', Bool.not_eq_false', Bool.and_eq_true, Bool.or_eq_true, Bool.and_eq_false_iff, Bool.or_eq_false_iff, beq_iff_eq, bne_iff_ne, beq_eq_false_iff_ne, bne_eq_false_iff_eq, ne_eq, Decidable.not_not, Bool.decide_eq_true] at h5_
            first | refine al_gyes rfl rfl rfl rfl rfl (ao_mv (v := .slice _ _ _) rfl) ?_ | refine al_gyes rfl rfl rfl rfl rfl (ao_mv (v := v) rfl) ?_
            first | refine al_gyes rfl rfl rfl rfl rfl (ao_mv (v := .slice _ _ _) rfl) ?_ | refine al_gyes rfl rfl rfl rfl rfl (ao_mv (v := v) rfl) ?_
            refine al_gyes rfl rfl rfl rfl rfl (ao_calld (eqFile_c (l := []) (m := []) Sl.nil Sl.zero (by simp)) Try.call21 rfl rfl) ?_
            refine al_gyes rfl rfl rfl rfl rfl (ao_not rfl) ?_
            refine al_opd rfl rfl rfl (ao_pickF rfl (v := .bool _) rfl) ?_
            refine al_opd rfl rfl rfl (ao_mv (v := .bool _) rfl) ?_
            refine al_cases (d := 69) rfl (fun h6_ => ?_) (fun h6_ => ?_)
            · try simp only [decide_eq_true_eq, decide_eq_false_iff_not, Bool.not_eq_true', Bool.not_eq_false', Bool.and_eq_true, Bool.or_eq_true, Bool.and_eq_false_iff, Bool.or_eq_false_iff, beq_iff_eq, bne_iff_ne, beq_eq_false_iff_ne, bne_eq_false_iff_eq, ne_eq, Decidable.not_not, Bool.decide_eq_true] at h6_
              first | done | omega | (exfalso; revert h6_; simp; (first | done | omega))
            · try simp only [decide_eq_true_eq, decide_eq_false_iff_not, Bool.not_eq_true', Bool.not_eq_false', Bool.and_eq_true, Bool.or_eq_true, Bool.and_eq_false_iff, Bool.or_eq_false_iff, beq_iff_eq, bne_iff_ne, beq_eq_false_iff_ne, bne_eq_false_iff_eq, ne_eq, Decidable.not_not, Bool.decide_eq_true] at h6_
              refine al_gyes rfl rfl rfl rfl rfl (ao_mv (v := .int _ _) rfl) ?_
              refine al_gyes rfl rfl rfl rfl rfl (ao_mv (v := .int _ _) rfl) ?_
              refine al_gyes rfl rfl rfl rfl rfl (ao_neq rfl rfl) ?_
              refine al_opd rfl rfl rfl (ao_pickF rfl (v := .bool _) rfl) ?_
              refine al_nilT ?_
              refine aw_cond rfl (fun h7_ => ?_) (fun h7_ => ?_)
              · try simp only [decide_eq_true_eq, decide_eq_false_iff_not, Bool.not_eq_true', Bool.not_eq_false', Bool.and_eq_true, Bool.or_eq_true, Bool.and_eq_false_iff, Bool.or_eq_false_iff, beq_iff_eq, bne_iff_ne, beq_eq_false_iff_ne, bne_eq_false_iff_eq, ne_eq, Decidable.not_not, Bool.decide_eq_true] at h7_
                first | done | omega | (exfalso; revert h7_; simp; (first | done | omega))
              · try simp only [decide_eq_true_eq, decide_eq_false_iff_not, Bool.not_eq_true', Bool.not_eq_false', Bool.and_eq_true, Bool.or_eq_true, Bool.and_eq_false_iff, Bool.or_eq_false_iff, beq_iff_eq, bne_iff_ne, beq_eq_false_iff_ne, bne_eq_false_iff_eq, ne_eq, Decidable.not_not, Bool.decide_eq_true] at h7_
                refine aw_skipT ?_
                refine aw_seq ?_
                refine aw_region ?_
                refine al_opd rfl rfl rfl (ao_as (v := .int _ _) rfl) ?_
                refine al_nilT ?_
                refine aw_seq ?_
                refine aw_region ?_
                first | refine al_opd rfl rfl rfl (ao_mv (v := .slice _ _ _) rfl) ?_ | refine al_opd rfl rfl rfl (ao_mv (v := v) rfl) ?_
                refine al_opd rfl rfl rfl (ao_mv (v := .int _ _) rfl) ?_
                refine al_opd rfl rfl rfl (ao_calld (mark0_file_c (k := 1)) Try.call41 rfl rfl) ?_
                refine al_opd rfl rfl rfl (ao_as (v := .int _ _) rfl) ?_
                refine al_nilT ?_
                refine aw_seq ?_
                refine aw_region ?_
                refine al_opd rfl rfl rfl (ao_as (v := .int _ _) rfl) ?_
                refine al_nilT ?_
                refine aw_seq ?_
                refine aw_region ?_
                first | refine al_opd rfl rfl rfl (ao_mv (v := .slice _ _ _) rfl) ?_ | refine al_opd rfl rfl rfl (ao_mv (v := v) rfl) ?_
                refine al_opd rfl rfl rfl (ao_mv (v := .int _ _) rfl) ?_
                refine al_opd rfl rfl rfl (ao_calld (held_file_c (n := 0) (k := 1) Sl.nil (by omega) (by omega)) Try.call42 rfl rfl) ?_
                refine al_opd rfl rfl rfl (ao_as (v := .int _ _) rfl) ?_
                refine al_nilT ?_
                refine aw_seq ?_
                refine aw_seq ?_
                refine aw_region ?_
                refine al_opd rfl rfl rfl (ao_mv (v := .int _ _) rfl) ?_
                refine al_opd rfl rfl rfl (ao_lss rfl rfl) ?_
                refine al_nilT ?_
                refine aw_cond rfl (fun h8_ => ?_) (fun h8_ => ?_)
                · try simp only [decide_eq_true_eq, decide_eq_false_iff_not, Bool.not_eq_true', Bool.not_eq_false', Bool.and_eq_true, Bool.or_eq_true, Bool.and_eq_false_iff, Bool.or_eq_false_iff, beq_iff_eq, bne_iff_ne, beq_eq_false_iff_ne, bne_eq_false_iff_eq, ne_eq, Decidable.not_not, Bool.decide_eq_true] at h8_
                  first | done | omega | (exfalso; revert h8_; simp; (first | done | omega))
                · try simp only [decide_eq_true_eq, decide_eq_false_iff_not, Bool.not_eq_true', Bool.not_eq_false', Bool.and_eq_true, Bool.or_eq_true, Bool.and_eq_false_iff, Bool.or_eq_false_iff, beq_iff_eq, bne_iff_ne, beq_eq_false_iff_ne, bne_eq_false_iff_eq, ne_eq, Decidable.not_not, Bool.decide_eq_true] at h8_
                  refine aw_skipT ?_
                  refine aw_seq ?_
                  refine aw_seq ?_
                  refine aw_region ?_
                  refine al_opd rfl rfl rfl (ao_mv (v := .int _ _) rfl) ?_
                  refine al_opd rfl rfl rfl (ao_mv (v := .int _ _) rfl) ?_
                  refine al_opd rfl rfl rfl (ao_neq rfl rfl) ?_
                  refine al_nilT ?_
                  refine aw_cond rfl (fun h9_ => ?_) (fun h9_ => ?_)
                  · try simp only [decide_eq_true_eq, decide_eq_false_iff_not, Bool.not_eq_true', Bool.not_eq_false', Bool.and_eq_true, Bool.or_eq_true, Bool.and_eq_false_iff, Bool.or_eq_false_iff, beq_iff_eq, bne_iff_ne, beq_eq_false_iff_ne, bne_eq_false_iff_eq, ne_eq, Decidable.not_not, Bool.decide_eq_true] at h9_
                    first | done | omega | (exfalso; revert h9_; simp; (first | done | omega))
                  · try simp only [decide_eq_true_eq, decide_eq_false_iff_not, Bool.not_eq_true', Bool.not_eq_false', Bool.and_eq_true, Bool.or_eq_true, Bool.and_eq_false_iff, Bool.or_eq_false_iff, beq_iff_eq, bne_iff_ne, beq_eq_false_iff_ne, bne_eq_false_iff_eq, ne_eq, Decidable.not_not, Bool.decide_eq_true] at h9_
                    refine aw_skipT ?_
                    refine aw_seq ?_
                    refine aw_draw (m := 12) mo (by kernel_rfl) rfl (fun _ _ _ h => h) ?_
                    refine dw_opd rfl rfl rfl (ao_loada Try.isAgg42 Try.sizeOf42 rfl (by ((repeat (first | exact blk_push_new _ _ | assumption | apply blk_push_old | apply blk_set_same | refine (blk_set_ne (by first | assumption | omega | (simp only [next_push, next_set, next_kill, ne_eq]; omega))).trans ?_ | refine (blk_kill_ne (by first | assumption | omega | (simp only [next_push, next_set, next_kill, ne_eq]; omega))).trans ?_)); (first | done | fail))) (by rfl) (by first | rfl | (simp; (first | done | fail)))) ?_
                    refine dw_opd rfl rfl rfl (ao_calld (toRoom_c (r := r)) Try.call31 rfl rfl) ?_
                    first | refine dw_opd rfl rfl rfl (ao_mv (v := .slice _ _ _) rfl) ?_ | refine dw_opd rfl rfl rfl (ao_mv (v := v) rfl) ?_
                    refine dw_opn rfl rfl rfl (ao_calld (toFile_c (v := v) (l := l) (ha.mono (by (repeat (first | exact Same.refl _ _ | assumption | refine Same.push ?_ (by (first | exact Nat.le_refl _ | omega | (simp only [next_push, next_set, next_kill]; omega))) _ | refine Same.set ?_ (by (first | exact Nat.le_refl _ | omega | (simp only [next_push, next_set, next_kill]; omega))) _ | refine Same.kill ?_ (by (first | exact Nat.le_refl _ | omega | (simp only [next_push, next_set, next_kill]; omega))))))) (by omega)) Try.call19 rfl rfl) ?_
                    refine dw_opd rfl rfl rfl (ao_loada Try.isAgg61 Try.sizeOf61 rfl (by ((repeat (first | exact blk_push_new _ _ | assumption | apply blk_push_old | apply blk_set_same | refine (blk_set_ne (by first | assumption | omega | (simp only [next_push, next_set, next_kill, ne_eq]; omega))).trans ?_ | refine (blk_kill_ne (by first | assumption | omega | (simp only [next_push, next_set, next_kill, ne_eq]; omega))).trans ?_)); (first | done | fail))) (by rfl) (by first | rfl | (simp; (first | done | fail)))) ?_
                    refine dw_opd rfl rfl rfl (ao_calld (toSpot_c (s := s)) Try.call50 rfl rfl) ?_
                    refine dw_opd rfl rfl rfl (ao_calld (implAdd4_c (l := l) (r := r) (by ((repeat (first | exact blk_push_new _ _ | assumption | apply blk_push_old | apply blk_set_same | refine (blk_set_ne (by first | assumption | omega | (simp only [next_push, next_set, next_kill, ne_eq]; omega))).trans ?_ | refine (blk_kill_ne (by first | assumption | omega | (simp only [next_push, next_set, next_kill, ne_eq]; omega))).trans ?_)); (first | done | fail))) (by omega) (by omega) hw hsp hs hv h12 hf) Try.call51 rfl rfl) ?_
                    refine dw_opd rfl rfl rfl (ao_mv (v := .tuple _) rfl) ?_
                    refine dw_opd rfl rfl rfl (ao_extract (v := .slice _ _ _) rfl rfl) ?_
                    refine dw_opd rfl rfl rfl (ao_extract (v := .int _ _) rfl rfl) ?_
                    first | refine dw_opd rfl rfl rfl (ao_as (v := .slice _ _ _) rfl) ?_ | refine dw_opd rfl rfl rfl (ao_as (v := v) rfl) ?_
                    refine dw_opd rfl rfl rfl (ao_as (v := .int _ _) rfl) ?_
                    refine dw_end ?_
                    refine al_nilT ?_
                    refine aw_seq ?_
                    refine aw_seq ?_
                    refine aw_region ?_
                    first | refine al_opd rfl rfl rfl (ao_mv (v := .slice _ _ _) rfl) ?_ | refine al_opd rfl rfl rfl (ao_mv (v := v) rfl) ?_
                    first | refine al_opd rfl rfl rfl (ao_mv (v := .slice _ _ _) rfl) ?_ | refine al_opd rfl rfl rfl (ao_mv (v := v) rfl) ?_
                    refine al_opd rfl rfl rfl (ao_calld (eqFile_c (l := []) (m := []) Sl.nil Sl.zero (by simp)) Try.call21 rfl rfl) ?_
                    refine al_opd rfl rfl rfl (ao_not rfl) ?_
                    refine al_opd rfl rfl rfl (ao_mv (v := .bool _) rfl) ?_
                    refine al_cases (d := 99) rfl (fun h10_ => ?_) (fun h10_ => ?_)
                    · try simp only [decide_eq_true_eq, decide_eq_false_iff_not, Bool.not_eq_true', Bool.not_eq_false', Bool.and_eq_true, Bool.or_eq_true, Bool.and_eq_false_iff, Bool.or_eq_false_iff, beq_iff_eq, bne_iff_ne, beq_eq_false_iff_ne, bne_eq_false_iff_eq, ne_eq, Decidable.not_not, Bool.decide_eq_true] at h10_
                      first | done | omega | (exfalso; revert h10_; simp; (first | done | omega))
                    · try simp only [decide_eq_true_eq, decide_eq_false_iff_not, Bool.not_eq_true', Bool.not_eq_false', Bool.and_eq_true, Bool.or_eq_true, Bool.and_eq_false_iff, Bool.or_eq_false_iff, beq_iff_eq, bne_iff_ne, beq_eq_false_iff_ne, bne_eq_false_iff_eq, ne_eq, Decidable.not_not, Bool.decide_eq_true] at h10_
                      refine al_gyes rfl rfl rfl rfl rfl (ao_mv (v := .int _ _) rfl) ?_
                      refine al_gyes rfl rfl rfl rfl rfl (ao_mv (v := .int _ _) rfl) ?_
                      refine al_gyes rfl rfl rfl rfl rfl (ao_neq rfl rfl) ?_
                      refine al_opd rfl rfl rfl (ao_pickF rfl (v := .bool _) rfl) ?_
                      refine al_nilT ?_
                      refine aw_cond rfl (fun h11_ => ?_) (fun h11_ => ?_)
                      · try simp only [decide_eq_true_eq, decide_eq_false_iff_not, Bool.not_eq_true', Bool.not_eq_false', Bool.and_eq_true, Bool.or_eq_true, Bool.and_eq_false_iff, Bool.or_eq_false_iff, beq_iff_eq, bne_iff_ne, beq_eq_false_iff_ne, bne_eq_false_iff_eq, ne_eq, Decidable.not_not, Bool.decide_eq_true] at h11_
                        first | done | omega | (exfalso; revert h11_; simp; (first | done | omega))
                      · try simp only [decide_eq_true_eq, decide_eq_false_iff_not, Bool.not_eq_true', Bool.not_eq_false', Bool.and_eq_true, Bool.or_eq_true, Bool.and_eq_false_iff, Bool.or_eq_false_iff, beq_iff_eq, bne_iff_ne, beq_eq_false_iff_ne, bne_eq_false_iff_eq, ne_eq, Decidable.not_not, Bool.decide_eq_true] at h11_
                        refine aw_skipT ?_
                        refine aw_seq ?_
                        refine aw_region ?_
                        refine al_opd rfl rfl rfl (ao_as (v := .int _ _) rfl) ?_
                        refine al_nilT ?_
                        refine aw_seq ?_
                        refine aw_region ?_
                        first | refine al_opd rfl rfl rfl (ao_mv (v := .slice _ _ _) rfl) ?_ | refine al_opd rfl rfl rfl (ao_mv (v := v) rfl) ?_
                        refine al_opd rfl rfl rfl (ao_mv (v := .int _ _) rfl) ?_
                        refine al_opd rfl rfl rfl (ao_calld (held_file_c (n := 0) (k := 1) Sl.nil (by omega) (by omega)) Try.call42 rfl rfl) ?_
                        refine al_opd rfl rfl rfl (ao_as (v := .int _ _) rfl) ?_
                        refine al_nilT ?_
                        refine aw_seq ?_
                        refine aw_seq ?_
                        refine aw_region ?_
                        refine al_opd rfl rfl rfl (ao_mv (v := .int _ _) rfl) ?_
                        refine al_opd rfl rfl rfl (ao_lss rfl rfl) ?_
                        refine al_nilT ?_
                        refine aw_cond rfl (fun h12_ => ?_) (fun h12_ => ?_)
                        · try simp only [decide_eq_true_eq, decide_eq_false_iff_not, Bool.not_eq_true', Bool.not_eq_false', Bool.and_eq_true, Bool.or_eq_true, Bool.and_eq_false_iff, Bool.or_eq_false_iff, beq_iff_eq, bne_iff_ne, beq_eq_false_iff_ne, bne_eq_false_iff_eq, ne_eq, Decidable.not_not, Bool.decide_eq_true] at h12_
                          first | done | omega | (exfalso; revert h12_; simp; (first | done | omega))
                        · try simp only [decide_eq_true_eq, decide_eq_false_iff_not, Bool.not_eq_true', Bool.not_eq_false', Bool.and_eq_true, Bool.or_eq_true, Bool.and_eq_false_iff, Bool.or_eq_false_iff, beq_iff_eq, bne_iff_ne, beq_eq_false_iff_ne, bne_eq_false_iff_eq, ne_eq, Decidable.not_not, Bool.decide_eq_true] at h12_
                          refine aw_skipT ?_
                          refine aw_seq ?_
                          refine aw_seq ?_
                          refine aw_region ?_
                          refine al_opd rfl rfl rfl (ao_mv (v := .int _ _) rfl) ?_
                          refine al_opd rfl rfl rfl (ao_mv (v := .int _ _) rfl) ?_
                          refine al_opd rfl rfl rfl (ao_neq rfl rfl) ?_
                          refine al_nilT ?_
                          refine aw_cond rfl (fun h13_ => ?_) (fun h13_ => ?_)
                          · try simp only [decide_eq_true_eq, decide_eq_false_iff_not, Bool.not_eq_true', Bool.not_eq_false', Bool.and_eq_true, Bool.or_eq_true, Bool.and_eq_false_iff, Bool.or_eq_false_iff, beq_iff_eq, bne_iff_ne, beq_eq_false_iff_ne, bne_eq_false_iff_eq, ne_eq, Decidable.not_not, Bool.decide_eq_true] at h13_
                            first | done | omega | (exfalso; revert h13_; simp; (first | done | omega))
                          · try simp only [decide_eq_true_eq, decide_eq_false_iff_not, Bool.not_eq_true', Bool.not_eq_false', Bool.and_eq_true, Bool.or_eq_true, Bool.and_eq_false_iff, Bool.or_eq_false_iff, beq_iff_eq, bne_iff_ne, beq_eq_false_iff_ne, bne_eq_false_iff_eq, ne_eq, Decidable.not_not, Bool.decide_eq_true] at h13_
                            refine aw_skipT ?_
                            refine aw_seq ?_
                            refine aw_region ?_
                            refine al_opd rfl rfl rfl (ao_as (v := .bool _) rfl) ?_
                            refine al_nilT ?_
                            refine aw_ret ?_
                            refine ends1 rfl (rv_tmp (v := .bool _) rfl) ?_
                            exact ⟨by first | rfl | (simp [*]; (first | done | fail)), by (repeat (first | exact Same.refl _ _ | assumption | refine Same.push ?_ (by (first | exact Nat.le_refl _ | omega | (simp only [next_push, next_set, next_kill]; omega))) _ | refine Same.set ?_ (by (first | exact Nat.le_refl _ | omega | (simp only [next_push, next_set, next_kill]; omega))) _ | refine Same.kill ?_ (by (first | exact Nat.le_refl _ | omega | (simp only [next_push, next_set, next_kill]; omega)))))⟩

-- laws.FnExactAddPerson
theorem lawAdd3_c {r : Room} {v : Value} {l : List Spot} {s : Spot} {H : AHeap} (hw : wfRoom r) (ha : Sl H spot 2 v l) (hl : l.length ≤ 9223372036854775807) (hsp : wfSpots l) (hs : wfSpot s) (hv : okFile r l) (h12 : l.length = 12) : ACd Try.prog 14 [.agg (roomC r).toArray, v, .agg #[.int .i8 s.x, .int .i8 s.y]] H (.bool true) (H) := by
  refine ac_gc0 (fun β => VR.plainT β (by first | rfl | simp [plainT, plainV, plain1])) (ac_body Try.func14 rfl Try.ntmps14 rfl ?_)
  refine aw_seq ?_
  refine aw_region ?_
  refine al_opd rfl rfl rfl (ao_boxa (by rfl)) ?_
  refine al_opd rfl rfl rfl (ao_boxa (by rfl)) ?_
  refine al_opd rfl rfl rfl (ao_as (v := .bool _) rfl) ?_
  refine al_nilT ?_
  refine aw_seq ?_
  refine aw_region ?_
  refine al_opd rfl rfl rfl (ao_as (v := .int _ _) rfl) ?_
  refine al_nilT ?_
  refine aw_seq ?_
  refine aw_region ?_
  first | refine al_opd rfl rfl rfl (ao_mv (v := .slice _ _ _) rfl) ?_ | refine al_opd rfl rfl rfl (ao_mv (v := v) rfl) ?_
  refine al_opd rfl rfl rfl (ao_mv (v := .int _ _) rfl) ?_
  refine al_opd rfl rfl rfl (ao_calld (szFile_c (v := v) (l := l) (k := 1048576) (ha.mono (by (repeat (first | exact Same.refl _ _ | assumption | refine Same.push ?_ (by (first | exact Nat.le_refl _ | omega | (simp only [next_push, next_set, next_kill]; omega))) _ | refine Same.set ?_ (by (first | exact Nat.le_refl _ | omega | (simp only [next_push, next_set, next_kill]; omega))) _ | refine Same.kill ?_ (by (first | exact Nat.le_refl _ | omega | (simp only [next_push, next_set, next_kill]; omega))))))) hl (by omega)) Try.call17 rfl rfl) ?_
  refine al_opd rfl rfl rfl (ao_as (v := .int _ _) rfl) ?_
  refine al_nilT ?_
  refine aw_seq ?_
  refine aw_seq ?_
  refine aw_region ?_
  refine al_opd rfl rfl rfl (ao_mv (v := .int _ _) rfl) ?_
  refine al_opd rfl rfl rfl (ao_lss rfl rfl) ?_
  refine al_nilT ?_
  refine aw_cond rfl (fun h1_ => ?_) (fun h1_ => ?_)
  · try simp only [decide_eq_true_eq, decide_eq_false_iff_not, Bool.not_eq_true', Bool.not_eq_false', Bool.and_eq_true, Bool.or_eq_true, Bool.and_eq_false_iff, Bool.or_eq_false_iff, beq_iff_eq, bne_iff_ne, beq_eq_false_iff_ne, bne_eq_false_iff_eq, ne_eq, Decidable.not_not, Bool.decide_eq_true] at h1_
    refine aw_seq ?_
    refine aw_region ?_
    refine al_opd rfl rfl rfl (ao_as (v := .bool _) rfl) ?_
    refine al_nilT ?_
    refine aw_ret ?_
    refine thenA_r ?_
    refine ends1 rfl (rv_tmp (v := .bool _) rfl) ?_
    exact ⟨by first | rfl | (simp [*]; (first | done | fail)), by (repeat (first | exact Same.refl _ _ | assumption | refine Same.push ?_ (by (first | exact Nat.le_refl _ | omega | (simp only [next_push, next_set, next_kill]; omega))) _ | refine Same.set ?_ (by (first | exact Nat.le_refl _ | omega | (simp only [next_push, next_set, next_kill]; omega))) _ | refine Same.kill ?_ (by (first | exact Nat.le_refl _ | omega | (simp only [next_push, next_set, next_kill]; omega)))))⟩
  · try simp only [decide_eq_true_eq, decide_eq_false_iff_not, Bool.not_eq_true', Bool.not_eq_false', Bool.and_eq_true, Bool.or_eq_true, Bool.and_eq_false_iff, Bool.or_eq_false_iff, beq_iff_eq, bne_iff_ne, beq_eq_false_iff_ne, bne_eq_false_iff_eq, ne_eq, Decidable.not_not, Bool.decide_eq_true] at h1_
    have hl1 : l.length ≤ 1048576 := by omega
    refine aw_skipT ?_
    refine aw_seq ?_
    refine aw_draw (m := 12) mo (by kernel_rfl) rfl (fun _ _ _ h => h) ?_
    refine dw_opd rfl rfl rfl (ao_loada Try.isAgg42 Try.sizeOf42 rfl (by ((repeat (first | exact blk_push_new _ _ | assumption | apply blk_push_old | apply blk_set_same | refine (blk_set_ne (by first | assumption | omega | (simp only [next_push, next_set, next_kill, ne_eq]; omega))).trans ?_ | refine (blk_kill_ne (by first | assumption | omega | (simp only [next_push, next_set, next_kill, ne_eq]; omega))).trans ?_)); (first | done | fail))) (by rfl) (by first | rfl | (simp; (first | done | fail)))) ?_
    refine dw_opd rfl rfl rfl (ao_calld (toRoom_c (r := r)) Try.call31 rfl rfl) ?_
    first | refine dw_opd rfl rfl rfl (ao_mv (v := .slice _ _ _) rfl) ?_ | refine dw_opd rfl rfl rfl (ao_mv (v := v) rfl) ?_
    refine dw_opn rfl rfl rfl (ao_calld (toFile_c (v := v) (l := l) (ha.mono (by (repeat (first | exact Same.refl _ _ | assumption | refine Same.push ?_ (by (first | exact Nat.le_refl _ | omega | (simp only [next_push, next_set, next_kill]; omega))) _ | refine Same.set ?_ (by (first | exact Nat.le_refl _ | omega | (simp only [next_push, next_set, next_kill]; omega))) _ | refine Same.kill ?_ (by (first | exact Nat.le_refl _ | omega | (simp only [next_push, next_set, next_kill]; omega))))))) (by omega)) Try.call19 rfl rfl) ?_
    refine dw_opd rfl rfl rfl (ao_loada Try.isAgg61 Try.sizeOf61 rfl (by ((repeat (first | exact blk_push_new _ _ | assumption | apply blk_push_old | apply blk_set_same | refine (blk_set_ne (by first | assumption | omega | (simp only [next_push, next_set, next_kill, ne_eq]; omega))).trans ?_ | refine (blk_kill_ne (by first | assumption | omega | (simp only [next_push, next_set, next_kill, ne_eq]; omega))).trans ?_)); (first | done | fail))) (by rfl) (by first | rfl | (simp; (first | done | fail)))) ?_
    refine dw_opd rfl rfl rfl (ao_calld (toSpot_c (s := s)) Try.call50 rfl rfl) ?_
    refine dw_opn rfl rfl rfl (ao_calld (specAdd3_c (l := l) (r := r) (by ((repeat (first | exact blk_push_new _ _ | assumption | apply blk_push_old | apply blk_set_same | refine (blk_set_ne (by first | assumption | omega | (simp only [next_push, next_set, next_kill, ne_eq]; omega))).trans ?_ | refine (blk_kill_ne (by first | assumption | omega | (simp only [next_push, next_set, next_kill, ne_eq]; omega))).trans ?_)); (first | done | fail))) (by omega) (by omega) hw hsp hs hv h12) Try.call49 rfl rfl) ?_
    refine dw_opd rfl rfl rfl (ao_mv (v := .tuple _) rfl) ?_
    refine dw_opd rfl rfl rfl (ao_extract (v := .slice _ _ _) rfl rfl) ?_
    refine dw_opd rfl rfl rfl (ao_extract (v := .int _ _) rfl rfl) ?_
    first | refine dw_opd rfl rfl rfl (ao_as (v := .slice _ _ _) rfl) ?_ | refine dw_opd rfl rfl rfl (ao_as (v := v) rfl) ?_
    refine dw_opd rfl rfl rfl (ao_as (v := .int _ _) rfl) ?_
    refine dw_end ?_
    refine al_nilT ?_
    refine aw_seq ?_
    refine aw_region ?_
    first | refine al_opd rfl rfl rfl (ao_mv (v := .slice _ _ _) rfl) ?_ | refine al_opd rfl rfl rfl (ao_mv (v := v) rfl) ?_
    refine al_opd rfl rfl rfl (ao_calld (toFile_c (v := v) (l := l) (ha.mono (by (repeat (first | exact Same.refl _ _ | assumption | refine Same.push ?_ (by (first | exact Nat.le_refl _ | omega | (simp only [next_push, next_set, next_kill]; omega))) _ | refine Same.set ?_ (by (first | exact Nat.le_refl _ | omega | (simp only [next_push, next_set, next_kill]; omega))) _ | refine Same.kill ?_ (by (first | exact Nat.le_refl _ | omega | (simp only [next_push, next_set, next_kill]; omega))))))) (by omega)) Try.call19 rfl rfl) ?_
    first | refine al_opd rfl rfl rfl (ao_as (v := .slice _ _ _) rfl) ?_ | refine al_opd rfl rfl rfl (ao_as (v := v) rfl) ?_
    refine al_nilT ?_
    refine aw_seq ?_
    refine aw_draw (m := 11) mo (by kernel_rfl) rfl (fun _ _ _ h => h) ?_
    refine dw_opd rfl rfl rfl (ao_loada Try.isAgg42 Try.sizeOf42 rfl (by ((repeat (first | exact blk_push_new _ _ | assumption | apply blk_push_old | apply blk_set_same | refine (blk_set_ne (by first | assumption | omega | (simp only [next_push, next_set, next_kill, ne_eq]; omega))).trans ?_ | refine (blk_kill_ne (by first | assumption | omega | (simp only [next_push, next_set, next_kill, ne_eq]; omega))).trans ?_)); (first | done | fail))) (by rfl) (by first | rfl | (simp; (first | done | fail)))) ?_
    refine dw_opd rfl rfl rfl (ao_calld (toRoom_c (r := r)) Try.call31 rfl rfl) ?_
    first | refine dw_opd rfl rfl rfl (ao_mv (v := .slice _ _ _) rfl) ?_ | refine dw_opd rfl rfl rfl (ao_mv (v := v) rfl) ?_
    refine dw_opd rfl rfl rfl (ao_loada Try.isAgg61 Try.sizeOf61 rfl (by ((repeat (first | exact blk_push_new _ _ | assumption | apply blk_push_old | apply blk_set_same | refine (blk_set_ne (by first | assumption | omega | (simp only [next_push, next_set, next_kill, ne_eq]; omega))).trans ?_ | refine (blk_kill_ne (by first | assumption | omega | (simp only [next_push, next_set, next_kill, ne_eq]; omega))).trans ?_)); (first | done | fail))) (by rfl) (by first | rfl | (simp; (first | done | fail)))) ?_
    refine dw_opd rfl rfl rfl (ao_calld (toSpot_c (s := s)) Try.call50 rfl rfl) ?_
    refine dw_opd rfl rfl rfl (ao_calld (implAdd3_c (l := l) (r := r) (by ((repeat (first | exact blk_push_new _ _ | assumption | apply blk_push_old | apply blk_set_same | refine (blk_set_ne (by first | assumption | omega | (simp only [next_push, next_set, next_kill, ne_eq]; omega))).trans ?_ | refine (blk_kill_ne (by first | assumption | omega | (simp only [next_push, next_set, next_kill, ne_eq]; omega))).trans ?_)); (first | done | fail))) (by omega) (by omega) hw hsp hs hv h12) Try.call51 rfl rfl) ?_
    refine dw_opd rfl rfl rfl (ao_mv (v := .tuple _) rfl) ?_
    refine dw_opd rfl rfl rfl (ao_extract (v := .slice _ _ _) rfl rfl) ?_
    refine dw_opd rfl rfl rfl (ao_extract (v := .int _ _) rfl rfl) ?_
    first | refine dw_opd rfl rfl rfl (ao_as (v := .slice _ _ _) rfl) ?_ | refine dw_opd rfl rfl rfl (ao_as (v := v) rfl) ?_
    refine dw_opd rfl rfl rfl (ao_as (v := .int _ _) rfl) ?_
    refine dw_end ?_
    refine al_nilT ?_
    refine aw_seq ?_
    refine aw_seq ?_
    refine aw_region ?_
    first | refine al_opd rfl rfl rfl (ao_mv (v := .slice _ _ _) rfl) ?_ | refine al_opd rfl rfl rfl (ao_mv (v := v) rfl) ?_
    first | refine al_opd rfl rfl rfl (ao_mv (v := .slice _ _ _) rfl) ?_ | refine al_opd rfl rfl rfl (ao_mv (v := v) rfl) ?_
    refine al_opd rfl rfl rfl (ao_calld (eqFile_c (l := []) (m := []) Sl.nil Sl.zero (by simp)) Try.call21 rfl rfl) ?_
    refine al_opd rfl rfl rfl (ao_not rfl) ?_
    refine al_opd rfl rfl rfl (ao_mv (v := .bool _) rfl) ?_
    refine al_cases (d := 48) rfl (fun h2_ => ?_) (fun h2_ => ?_)
    · try simp only [decide_eq_true_eq, decide_eq_false_iff_not, Bool.not_eq_true', Bool.not_eq_false', Bool.and_eq_true, Bool.or_eq_true, Bool.and_eq_false_iff, Bool.or_eq_false_iff, beq_iff_eq, bne_iff_ne, beq_eq_false_iff_ne, bne_eq_false_iff_eq, ne_eq, Decidable.not_not, Bool.decide_eq_true] at h2_
      first | done | omega | (exfalso; revert h2_; simp; (first | done | omega))
    · try simp only [decide_eq_true_eq, decide_eq_false_iff_not, Bool.not_eq_true', Bool.not_eq_false', Bool.and_eq_true, Bool.or_eq_true, Bool.and_eq_false_iff, Bool.or_eq_false_iff, beq_iff_eq, bne_iff_ne, beq_eq_false_iff_ne, bne_eq_false_iff_eq, ne_eq, Decidable.not_not, Bool.decide_eq_true] at h2_
      refine al_gyes rfl rfl rfl rfl rfl (ao_mv (v := .int _ _) rfl) ?_
      refine al_gyes rfl rfl rfl rfl rfl (ao_mv (v := .int _ _) rfl) ?_
      refine al_gyes rfl rfl rfl rfl rfl (ao_neq rfl rfl) ?_
      refine al_opd rfl rfl rfl (ao_pickF rfl (v := .bool _) rfl) ?_
      refine al_nilT ?_
      refine aw_cond rfl (fun h3_ => ?_) (fun h3_ => ?_)
      · try simp only [decide_eq_true_eq, decide_eq_false_iff_not, Bool.not_eq_true', Bool.not_eq_false', Bool.and_eq_true, Bool.or_eq_true, Bool.and_eq_false_iff, Bool.or_eq_false_iff, beq_iff_eq, bne_iff_ne, beq_eq_false_iff_ne, bne_eq_false_iff_eq, ne_eq, Decidable.not_not, Bool.decide_eq_true] at h3_
        first | done | omega | (exfalso; revert h3_; simp; (first | done | omega))
      · try simp only [decide_eq_true_eq, decide_eq_false_iff_not, Bool.not_eq_true', Bool.not_eq_false', Bool.and_eq_true, Bool.or_eq_true, Bool.and_eq_false_iff, Bool.or_eq_false_iff, beq_iff_eq, bne_iff_ne, beq_eq_false_iff_ne, bne_eq_false_iff_eq, ne_eq, Decidable.not_not, Bool.decide_eq_true] at h3_
        refine aw_skipT ?_
        refine aw_seq ?_
        refine aw_seq ?_
        refine aw_region ?_
        first | refine al_opd rfl rfl rfl (ao_mv (v := .slice _ _ _) rfl) ?_ | refine al_opd rfl rfl rfl (ao_mv (v := v) rfl) ?_
        first | refine al_opd rfl rfl rfl (ao_mv (v := .slice _ _ _) rfl) ?_ | refine al_opd rfl rfl rfl (ao_mv (v := v) rfl) ?_
        refine al_opd rfl rfl rfl (ao_calld (toFile_c (v := v) (l := l) (ha.mono (by (repeat (first | exact Same.refl _ _ | assumption | refine Same.push ?_ (by (first | exact Nat.le_refl _ | omega | (simp only [next_push, next_set, next_kill]; omega))) _ | refine Same.set ?_ (by (first | exact Nat.le_refl _ | omega | (simp only [next_push, next_set, next_kill]; omega))) _ | refine Same.kill ?_ (by (first | exact Nat.le_refl _ | omega | (simp only [next_push, next_set, next_kill]; omega))))))) (by omega)) Try.call19 rfl rfl) ?_
        refine al_opd rfl rfl rfl (ao_calld (eqFile_c (l := l) (m := l) (Sl.full spot_len (by ((repeat (first | exact blk_push_new _ _ | assumption | apply blk_push_old | apply blk_set_same | refine (blk_set_ne (by first | assumption | omega | (simp only [next_push, next_set, next_kill, ne_eq]; omega))).trans ?_ | refine (blk_kill_ne (by first | assumption | omega | (simp only [next_push, next_set, next_kill, ne_eq]; omega))).trans ?_)); (first | done | fail))) rfl rfl rfl) (Sl.full spot_len (by ((repeat (first | exact blk_push_new _ _ | assumption | apply blk_push_old | apply blk_set_same | refine (blk_set_ne (by first | assumption | omega | (simp only [next_push, next_set, next_kill, ne_eq]; omega))).trans ?_ | refine (blk_kill_ne (by first | assumption | omega | (simp only [next_push, next_set, next_kill, ne_eq]; omega))).trans ?_)); (first | done | fail))) rfl rfl rfl) (by omega)) Try.call21 rfl rfl) ?_
        refine al_opd rfl rfl rfl (ao_not rfl) ?_
        refine al_nilT ?_
        refine aw_cond rfl (fun h4_ => ?_) (fun h4_ => ?_)
        · try simp only [decide_eq_true_eq, decide_eq_false_iff_not, Bool.not_eq_true', Bool.not_eq_false', Bool.and_eq_true, Bool.or_eq_true, Bool.and_eq_false_iff, Bool.or_eq_false_iff, beq_iff_eq, bne_iff_ne, beq_eq_false_iff_ne, bne_eq_false_iff_eq, ne_eq, Decidable.not_not, Bool.decide_eq_true] at h4_
          first | done | omega | (exfalso; revert h4_; simp; (first | done | omega))
        · try simp only [decide_eq_true_eq, decide_eq_false_iff_not, Bool.not_eq_true', Bool.not_eq_false', Bool.and_eq_true, Bool.or_eq_true, Bool.and_eq_false_iff, Bool.or_eq_false_iff, beq_iff_eq, bne_iff_ne, beq_eq_false_iff_ne, bne_eq_false_iff_eq, ne_eq, Decidable.not_not, Bool.decide_eq_true] at h4_
          refine aw_skipT ?_
          refine aw_seq ?_
          refine aw_region ?_
          refine al_opd rfl rfl rfl (ao_as (v := .int _ _) rfl) ?_
          refine al_nilT ?_
          refine aw_seq ?_
          refine aw_region ?_
          first | refine al_opd rfl rfl rfl (ao_mv (v := .slice _ _ _) rfl) ?_ | refine al_opd rfl rfl rfl (ao_mv (v := v) rfl) ?_
          refine al_opd rfl rfl rfl (ao_mv (v := .int _ _) rfl) ?_
          refine al_opd rfl rfl rfl ((ao_calld (mark_file_c (l := l) (k := 1) (by ((repeat (first | exact blk_push_new _ _ | assumption | apply blk_push_old | apply blk_set_same | refine (blk_set_ne (by first | assumption | omega | (simp only [next_push, next_set, next_kill, ne_eq]; omega))).trans ?_ | refine (blk_kill_ne (by first | assumption | omega | (simp only [next_push, next_set, next_kill, ne_eq]; omega))).trans ?_)); (first | done | fail))) (by omega) (by omega)) Try.call41 rfl rfl).to (SetR.eq (by (repeat (first | exact SetR.new | exact SetR.same | (apply SetR.old; · exact ⟨_, by ((repeat (first | exact blk_push_new _ _ | assumption | apply blk_push_old | apply blk_set_same | refine (blk_set_ne (by first | assumption | omega | (simp only [next_push, next_set, next_kill, ne_eq]; omega))).trans ?_ | refine (blk_kill_ne (by first | assumption | omega | (simp only [next_push, next_set, next_kill, ne_eq]; omega))).trans ?_)); (first | done | fail))⟩) | exact SetR.base))))) ?_
          refine al_opd rfl rfl rfl (ao_as (v := .int _ _) rfl) ?_
          refine al_nilT ?_
          refine aw_seq ?_
          refine aw_seq ?_
          refine aw_region ?_
          refine al_opd rfl rfl rfl (ao_mv (v := .int _ _) rfl) ?_
          refine al_opd rfl rfl rfl (ao_lss rfl rfl) ?_
          refine al_opd rfl rfl rfl (ao_mv (v := .bool _) rfl) ?_
          refine al_cases (d := 63) rfl (fun h5_ => ?_) (fun h5_ => ?_)
          · try simp only [decide_eq_true_eq, decide_eq_false_iff_not, Bool.not_eq_true', Bool.not_eq_false', Bool.and_eq_true, Bool.or_eq_true, Bool.and_eq_false_iff, Bool.or_eq_false_iff, beq_iff_eq, bne_iff_ne, beq_eq_false_iff_ne, bne_eq_false_iff_eq, ne_eq, Decidable.not_not, Bool.decide_eq_true] at h5_
            first | done | omega | (exfalso; revert h5_; simp; (first | done | omega))
          · try simp only [decide_eq_true_eq, decide_eq_false_iff_not, Bool.not_eq_true', Bool.not_eq_false', Bool.and_eq_true, Bool.or_eq_true, Bool.and_eq_false_iff, Bool.or_eq_false_iff, beq_iff_eq, bne_iff_ne, beq_eq_false_iff_ne, bne_eq_false_iff_eq, ne_eq, Decidable.not_not, Bool.decide_eq_true] at h5_
            first | refine al_gyes rfl rfl rfl rfl rfl (ao_mv (v := .slice _ _ _) rfl) ?_ | refine al_gyes rfl rfl rfl rfl rfl (ao_mv (v := v) rfl) ?_
            first | refine al_gyes rfl rfl rfl rfl rfl (ao_mv (v := .slice _ _ _) rfl) ?_ | refine al_gyes rfl rfl rfl rfl rfl (ao_mv (v := v) rfl) ?_
            refine al_gyes rfl rfl rfl rfl rfl (ao_calld (eqFile_c (l := []) (m := []) Sl.nil Sl.zero (by simp)) Try.call21 rfl rfl) ?_
            refine al_gyes rfl rfl rfl rfl rfl (ao_not rfl) ?_
            refine al_opd rfl rfl rfl (ao_pickF rfl (v := .bool _) rfl) ?_
            refine al_opd rfl rfl rfl (ao_mv (v := .bool _) rfl) ?_
            refine al_cases (d := 69) rfl (fun h6_ => ?_) (fun h6_ => ?_)
            · try simp only [decide_eq_true_eq, decide_eq_false_iff_not, Bool.not_eq_true', Bool.not_eq_false', Bool.and_eq_true, Bool.or_eq_true, Bool.and_eq_false_iff, Bool.or_eq_false_iff, beq_iff_eq, bne_iff_ne, beq_eq_false_iff_ne, bne_eq_false_iff_eq, ne_eq, Decidable.not_not, Bool.decide_eq_true] at h6_
              first | done | omega | (exfalso; revert h6_; simp; (first | done | omega))
            · try simp only [decide_eq_true_eq, decide_eq_false_iff_not, Bool.not_eq_true', Bool.not_eq_false', Bool.and_eq_true, Bool.or_eq_true, Bool.and_eq_false_iff, Bool.or_eq_false_iff, beq_iff_eq, bne_iff_ne, beq_eq_false_iff_ne, bne_eq_false_iff_eq, ne_eq, Decidable.not_not, Bool.decide_eq_true] at h6_
              refine al_gyes rfl rfl rfl rfl rfl (ao_mv (v := .int _ _) rfl) ?_
              refine al_gyes rfl rfl rfl rfl rfl (ao_mv (v := .int _ _) rfl) ?_
              refine al_gyes rfl rfl rfl rfl rfl (ao_neq rfl rfl) ?_
              refine al_opd rfl rfl rfl (ao_pickF rfl (v := .bool _) rfl) ?_
              refine al_nilT ?_
              refine aw_cond rfl (fun h7_ => ?_) (fun h7_ => ?_)
              · try simp only [decide_eq_true_eq, decide_eq_false_iff_not, Bool.not_eq_true', Bool.not_eq_false', Bool.and_eq_true, Bool.or_eq_true, Bool.and_eq_false_iff, Bool.or_eq_false_iff, beq_iff_eq, bne_iff_ne, beq_eq_false_iff_ne, bne_eq_false_iff_eq, ne_eq, Decidable.not_not, Bool.decide_eq_true] at h7_
                first | done | omega | (exfalso; revert h7_; simp; (first | done | omega))
              · try simp only [decide_eq_true_eq, decide_eq_false_iff_not, Bool.not_eq_true', Bool.not_eq_false', Bool.and_eq_true, Bool.or_eq_true, Bool.and_eq_false_iff, Bool.or_eq_false_iff, beq_iff_eq, bne_iff_ne, beq_eq_false_iff_ne, bne_eq_false_iff_eq, ne_eq, Decidable.not_not, Bool.decide_eq_true] at h7_
                refine aw_skipT ?_
                refine aw_seq ?_
                refine aw_region ?_
                refine al_opd rfl rfl rfl (ao_as (v := .int _ _) rfl) ?_
                refine al_nilT ?_
                refine aw_seq ?_
                refine aw_region ?_
                first | refine al_opd rfl rfl rfl (ao_mv (v := .slice _ _ _) rfl) ?_ | refine al_opd rfl rfl rfl (ao_mv (v := v) rfl) ?_
                refine al_opd rfl rfl rfl (ao_mv (v := .int _ _) rfl) ?_
                refine al_opd rfl rfl rfl (ao_calld (mark0_file_c (k := 1)) Try.call41 rfl rfl) ?_
                refine al_opd rfl rfl rfl (ao_as (v := .int _ _) rfl) ?_
                refine al_nilT ?_
                refine aw_seq ?_
                refine aw_region ?_
                refine al_opd rfl rfl rfl (ao_as (v := .int _ _) rfl) ?_
                refine al_nilT ?_
                refine aw_seq ?_
                refine aw_region ?_
                first | refine al_opd rfl rfl rfl (ao_mv (v := .slice _ _ _) rfl) ?_ | refine al_opd rfl rfl rfl (ao_mv (v := v) rfl) ?_
                refine al_opd rfl rfl rfl (ao_mv (v := .int _ _) rfl) ?_
                refine al_opd rfl rfl rfl (ao_calld (held_file_c (n := 0) (k := 1) Sl.nil (by omega) (by omega)) Try.call42 rfl rfl) ?_
                refine al_opd rfl rfl rfl (ao_as (v := .int _ _) rfl) ?_
                refine al_nilT ?_
                refine aw_seq ?_
                refine aw_seq ?_
                refine aw_region ?_
                refine al_opd rfl rfl rfl (ao_mv (v := .int _ _) rfl) ?_
                refine al_opd rfl rfl rfl (ao_lss rfl rfl) ?_
                refine al_nilT ?_
                refine aw_cond rfl (fun h8_ => ?_) (fun h8_ => ?_)
                · try simp only [decide_eq_true_eq, decide_eq_false_iff_not, Bool.not_eq_true', Bool.not_eq_false', Bool.and_eq_true, Bool.or_eq_true, Bool.and_eq_false_iff, Bool.or_eq_false_iff, beq_iff_eq, bne_iff_ne, beq_eq_false_iff_ne, bne_eq_false_iff_eq, ne_eq, Decidable.not_not, Bool.decide_eq_true] at h8_
                  first | done | omega | (exfalso; revert h8_; simp; (first | done | omega))
                · try simp only [decide_eq_true_eq, decide_eq_false_iff_not, Bool.not_eq_true', Bool.not_eq_false', Bool.and_eq_true, Bool.or_eq_true, Bool.and_eq_false_iff, Bool.or_eq_false_iff, beq_iff_eq, bne_iff_ne, beq_eq_false_iff_ne, bne_eq_false_iff_eq, ne_eq, Decidable.not_not, Bool.decide_eq_true] at h8_
                  refine aw_skipT ?_
                  refine aw_seq ?_
                  refine aw_seq ?_
                  refine aw_region ?_
                  refine al_opd rfl rfl rfl (ao_mv (v := .int _ _) rfl) ?_
                  refine al_opd rfl rfl rfl (ao_mv (v := .int _ _) rfl) ?_
                  refine al_opd rfl rfl rfl (ao_neq rfl rfl) ?_
                  refine al_nilT ?_
                  refine aw_cond rfl (fun h9_ => ?_) (fun h9_ => ?_)
                  · try simp only [decide_eq_true_eq, decide_eq_false_iff_not, Bool.not_eq_true', Bool.not_eq_false', Bool.and_eq_true, Bool.or_eq_true, Bool.and_eq_false_iff, Bool.or_eq_false_iff, beq_iff_eq, bne_iff_ne, beq_eq_false_iff_ne, bne_eq_false_iff_eq, ne_eq, Decidable.not_not, Bool.decide_eq_true] at h9_
                    first | done | omega | (exfalso; revert h9_; simp; (first | done | omega))
                  · try simp only [decide_eq_true_eq, decide_eq_false_iff_not, Bool.not_eq_true', Bool.not_eq_false', Bool.and_eq_true, Bool.or_eq_true, Bool.and_eq_false_iff, Bool.or_eq_false_iff, beq_iff_eq, bne_iff_ne, beq_eq_false_iff_ne, bne_eq_false_iff_eq, ne_eq, Decidable.not_not, Bool.decide_eq_true] at h9_
                    refine aw_skipT ?_
                    refine aw_seq ?_
                    refine aw_draw (m := 12) mo (by kernel_rfl) rfl (fun _ _ _ h => h) ?_
                    refine dw_opd rfl rfl rfl (ao_loada Try.isAgg42 Try.sizeOf42 rfl (by ((repeat (first | exact blk_push_new _ _ | assumption | apply blk_push_old | apply blk_set_same | refine (blk_set_ne (by first | assumption | omega | (simp only [next_push, next_set, next_kill, ne_eq]; omega))).trans ?_ | refine (blk_kill_ne (by first | assumption | omega | (simp only [next_push, next_set, next_kill, ne_eq]; omega))).trans ?_)); (first | done | fail))) (by rfl) (by first | rfl | (simp; (first | done | fail)))) ?_
                    refine dw_opd rfl rfl rfl (ao_calld (toRoom_c (r := r)) Try.call31 rfl rfl) ?_
                    first | refine dw_opd rfl rfl rfl (ao_mv (v := .slice _ _ _) rfl) ?_ | refine dw_opd rfl rfl rfl (ao_mv (v := v) rfl) ?_
                    refine dw_opn rfl rfl rfl (ao_calld (toFile_c (v := v) (l := l) (ha.mono (by (repeat (first | exact Same.refl _ _ | assumption | refine Same.push ?_ (by (first | exact Nat.le_refl _ | omega | (simp only [next_push, next_set, next_kill]; omega))) _ | refine Same.set ?_ (by (first | exact Nat.le_refl _ | omega | (simp only [next_push, next_set, next_kill]; omega))) _ | refine Same.kill ?_ (by (first | exact Nat.le_refl _ | omega | (simp only [next_push, next_set, next_kill]; omega))))))) (by omega)) Try.call19 rfl rfl) ?_
                    refine dw_opd rfl rfl rfl (ao_loada Try.isAgg61 Try.sizeOf61 rfl (by ((repeat (first | exact blk_push_new _ _ | assumption | apply blk_push_old | apply blk_set_same | refine (blk_set_ne (by first | assumption | omega | (simp only [next_push, next_set, next_kill, ne_eq]; omega))).trans ?_ | refine (blk_kill_ne (by first | assumption | omega | (simp only [next_push, next_set, next_kill, ne_eq]; omega))).trans ?_)); (first | done | fail))) (by rfl) (by first | rfl | (simp; (first | done | fail)))) ?_
                    refine dw_opd rfl rfl rfl (ao_calld (toSpot_c (s := s)) Try.call50 rfl rfl) ?_
                    refine dw_opd rfl rfl rfl (ao_calld (implAdd3_c (l := l) (r := r) (by ((repeat (first | exact blk_push_new _ _ | assumption | apply blk_push_old | apply blk_set_same | refine (blk_set_ne (by first | assumption | omega | (simp only [next_push, next_set, next_kill, ne_eq]; omega))).trans ?_ | refine (blk_kill_ne (by first | assumption | omega | (simp only [next_push, next_set, next_kill, ne_eq]; omega))).trans ?_)); (first | done | fail))) (by omega) (by omega) hw hsp hs hv h12) Try.call51 rfl rfl) ?_
                    refine dw_opd rfl rfl rfl (ao_mv (v := .tuple _) rfl) ?_
                    refine dw_opd rfl rfl rfl (ao_extract (v := .slice _ _ _) rfl rfl) ?_
                    refine dw_opd rfl rfl rfl (ao_extract (v := .int _ _) rfl rfl) ?_
                    first | refine dw_opd rfl rfl rfl (ao_as (v := .slice _ _ _) rfl) ?_ | refine dw_opd rfl rfl rfl (ao_as (v := v) rfl) ?_
                    refine dw_opd rfl rfl rfl (ao_as (v := .int _ _) rfl) ?_
                    refine dw_end ?_
                    refine al_nilT ?_
                    refine aw_seq ?_
                    refine aw_seq ?_
                    refine aw_region ?_
                    first | refine al_opd rfl rfl rfl (ao_mv (v := .slice _ _ _) rfl) ?_ | refine al_opd rfl rfl rfl (ao_mv (v := v) rfl) ?_
                    first | refine al_opd rfl rfl rfl (ao_mv (v := .slice _ _ _) rfl) ?_ | refine al_opd rfl rfl rfl (ao_mv (v := v) rfl) ?_
                    refine al_opd rfl rfl rfl (ao_calld (eqFile_c (l := []) (m := []) Sl.nil Sl.zero (by simp)) Try.call21 rfl rfl) ?_
                    refine al_opd rfl rfl rfl (ao_not rfl) ?_
                    refine al_opd rfl rfl rfl (ao_mv (v := .bool _) rfl) ?_
                    refine al_cases (d := 99) rfl (fun h10_ => ?_) (fun h10_ => ?_)
                    · try simp only [decide_eq_true_eq, decide_eq_false_iff_not, Bool.not_eq_true', Bool.not_eq_false', Bool.and_eq_true, Bool.or_eq_true, Bool.and_eq_false_iff, Bool.or_eq_false_iff, beq_iff_eq, bne_iff_ne, beq_eq_false_iff_ne, bne_eq_false_iff_eq, ne_eq, Decidable.not_not, Bool.decide_eq_true] at h10_
                      first | done | omega | (exfalso; revert h10_; simp; (first | done | omega))
                    · try simp only [decide_eq_true_eq, decide_eq_false_iff_not, Bool.not_eq_true', Bool.not_eq_false', Bool.and_eq_true, Bool.or_eq_true, Bool.and_eq_false_iff, Bool.or_eq_false_iff, beq_iff_eq, bne_iff_ne, beq_eq_false_iff_ne, bne_eq_false_iff_eq, ne_eq, Decidable.not_not, Bool.decide_eq_true] at h10_
                      refine al_gyes rfl rfl rfl rfl rfl (ao_mv (v := .int _ _) rfl) ?_
                      refine al_gyes rfl rfl rfl rfl rfl (ao_mv (v := .int _ _) rfl) ?_
                      refine al_gyes rfl rfl rfl rfl rfl (ao_neq rfl rfl) ?_
                      refine al_opd rfl rfl rfl (ao_pickF rfl (v := .bool _) rfl) ?_
                      refine al_nilT ?_
                      refine aw_cond rfl (fun h11_ => ?_) (fun h11_ => ?_)
                      · try simp only [decide_eq_true_eq, decide_eq_false_iff_not, Bool.not_eq_true', Bool.not_eq_false', Bool.and_eq_true, Bool.or_eq_true, Bool.and_eq_false_iff, Bool.or_eq_false_iff, beq_iff_eq, bne_iff_ne, beq_eq_false_iff_ne, bne_eq_false_iff_eq, ne_eq, Decidable.not_not, Bool.decide_eq_true] at h11_
                        first | done | omega | (exfalso; revert h11_; simp; (first | done | omega))
                      · try simp only [decide_eq_true_eq, decide_eq_false_iff_not, Bool.not_eq_true', Bool.not_eq_false', Bool.and_eq_true, Bool.or_eq_true, Bool.and_eq_false_iff, Bool.or_eq_false_iff, beq_iff_eq, bne_iff_ne, beq_eq_false_iff_ne, bne_eq_false_iff_eq, ne_eq, Decidable.not_not, Bool.decide_eq_true] at h11_
                        refine aw_skipT ?_
                        refine aw_seq ?_
                        refine aw_region ?_
                        refine al_opd rfl rfl rfl (ao_as (v := .int _ _) rfl) ?_
                        refine al_nilT ?_
                        refine aw_seq ?_
                        refine aw_region ?_
                        first | refine al_opd rfl rfl rfl (ao_mv (v := .slice _ _ _) rfl) ?_ | refine al_opd rfl rfl rfl (ao_mv (v := v) rfl) ?_
                        refine al_opd rfl rfl rfl (ao_mv (v := .int _ _) rfl) ?_
                        refine al_opd rfl rfl rfl (ao_calld (held_file_c (n := 0) (k := 1) Sl.nil (by omega) (by omega)) Try.call42 rfl rfl) ?_
                        refine al_opd rfl rfl rfl (ao_as (v := .int _ _) rfl) ?_
                        refine al_nilT ?_
                        refine aw_seq ?_
                        refine aw_seq ?_
                        refine aw_region ?_
                        refine al_opd rfl rfl rfl (ao_mv (v := .int _ _) rfl) ?_
                        refine al_opd rfl rfl rfl (ao_lss rfl rfl) ?_
                        refine al_nilT ?_
                        refine aw_cond rfl (fun h12_ => ?_) (fun h12_ => ?_)
                        · try simp only [decide_eq_true_eq, decide_eq_false_iff_not, Bool.not_eq_true', Bool.not_eq_false', Bool.and_eq_true, Bool.or_eq_true, Bool.and_eq_false_iff, Bool.or_eq_false_iff, beq_iff_eq, bne_iff_ne, beq_eq_false_iff_ne, bne_eq_false_iff_eq, ne_eq, Decidable.not_not, Bool.decide_eq_true] at h12_
                          first | done | omega | (exfalso; revert h12_; simp; (first | done | omega))
                        · try simp only [decide_eq_true_eq, decide_eq_false_iff_not, Bool.not_eq_true', Bool.not_eq_false', Bool.and_eq_true, Bool.or_eq_true, Bool.and_eq_false_iff, Bool.or_eq_false_iff, beq_iff_eq, bne_iff_ne, beq_eq_false_iff_ne, bne_eq_false_iff_eq, ne_eq, Decidable.not_not, Bool.decide_eq_true] at h12_
                          refine aw_skipT ?_
                          refine aw_seq ?_
                          refine aw_seq ?_
                          refine aw_region ?_
                          refine al_opd rfl rfl rfl (ao_mv (v := .int _ _) rfl) ?_
                          refine al_opd rfl rfl rfl (ao_mv (v := .int _ _) rfl) ?_
                          refine al_opd rfl rfl rfl (ao_neq rfl rfl) ?_
                          refine al_nilT ?_
                          refine aw_cond rfl (fun h13_ => ?_) (fun h13_ => ?_)
                          · try simp only [decide_eq_true_eq, decide_eq_false_iff_not, Bool.not_eq_true', Bool.not_eq_false', Bool.and_eq_true, Bool.or_eq_true, Bool.and_eq_false_iff, Bool.or_eq_false_iff, beq_iff_eq, bne_iff_ne, beq_eq_false_iff_ne, bne_eq_false_iff_eq, ne_eq, Decidable.not_not, Bool.decide_eq_true] at h13_
                            first | done | omega | (exfalso; revert h13_; simp; (first | done | omega))
                          · try simp only [decide_eq_true_eq, decide_eq_false_iff_not, Bool.not_eq_true', Bool.not_eq_false', Bool.and_eq_true, Bool.or_eq_true, Bool.and_eq_false_iff, Bool.or_eq_false_iff, beq_iff_eq, bne_iff_ne, beq_eq_false_iff_ne, bne_eq_false_iff_eq, ne_eq, Decidable.not_not, Bool.decide_eq_true] at h13_
                            refine aw_skipT ?_
                            refine aw_seq ?_
                            refine aw_region ?_
                            refine al_opd rfl rfl rfl (ao_as (v := .bool _) rfl) ?_
                            refine al_nilT ?_
                            refine aw_ret ?_
                            refine ends1 rfl (rv_tmp (v := .bool _) rfl) ?_
                            exact ⟨by first | rfl | (simp [*]; (first | done | fail)), by (repeat (first | exact Same.refl _ _ | assumption | refine Same.push ?_ (by (first | exact Nat.le_refl _ | omega | (simp only [next_push, next_set, next_kill]; omega))) _ | refine Same.set ?_ (by (first | exact Nat.le_refl _ | omega | (simp only [next_push, next_set, next_kill]; omega))) _ | refine Same.kill ?_ (by (first | exact Nat.le_refl _ | omega | (simp only [next_push, next_set, next_kill]; omega)))))⟩

-- laws.FnExactAddPerson
theorem lawAdd0_c {r : Room} {v : Value} {l : List Spot} {s : Spot} {H : AHeap} (hw : wfRoom r) (ha : Sl H spot 2 v l) (hl : l.length ≤ 9223372036854775807) (hsp : wfSpots l) (hs : wfSpot s) (hv : ¬ okFile r l) : ACd Try.prog 14 [.agg (roomC r).toArray, v, .agg #[.int .i8 s.x, .int .i8 s.y]] H (.bool true) (H) := by
  refine ac_gc0 (fun β => VR.plainT β (by first | rfl | simp [plainT, plainV, plain1])) (ac_body Try.func14 rfl Try.ntmps14 rfl ?_)
  refine aw_seq ?_
  refine aw_region ?_
  refine al_opd rfl rfl rfl (ao_boxa (by rfl)) ?_
  refine al_opd rfl rfl rfl (ao_boxa (by rfl)) ?_
  refine al_opd rfl rfl rfl (ao_as (v := .bool _) rfl) ?_
  refine al_nilT ?_
  refine aw_seq ?_
  refine aw_region ?_
  refine al_opd rfl rfl rfl (ao_as (v := .int _ _) rfl) ?_
  refine al_nilT ?_
  refine aw_seq ?_
  refine aw_region ?_
  first | refine al_opd rfl rfl rfl (ao_mv (v := .slice _ _ _) rfl) ?_ | refine al_opd rfl rfl rfl (ao_mv (v := v) rfl) ?_
  refine al_opd rfl rfl rfl (ao_mv (v := .int _ _) rfl) ?_
  refine al_opd rfl rfl rfl (ao_calld (szFile_c (v := v) (l := l) (k := 1048576) (ha.mono (by (repeat (first | exact Same.refl _ _ | assumption | refine Same.push ?_ (by (first | exact Nat.le_refl _ | omega | (simp only [next_push, next_set, next_kill]; omega))) _ | refine Same.set ?_ (by (first | exact Nat.le_refl _ | omega | (simp only [next_push, next_set, next_kill]; omega))) _ | refine Same.kill ?_ (by (first | exact Nat.le_refl _ | omega | (simp only [next_push, next_set, next_kill]; omega))))))) hl (by omega)) Try.call17 rfl rfl) ?_
  refine al_opd rfl rfl rfl (ao_as (v := .int _ _) rfl) ?_
  refine al_nilT ?_
  refine aw_seq ?_
  refine aw_seq ?_
  refine aw_region ?_
  refine al_opd rfl rfl rfl (ao_mv (v := .int _ _) rfl) ?_
  refine al_opd rfl rfl rfl (ao_lss rfl rfl) ?_
  refine al_nilT ?_
  refine aw_cond rfl (fun h1_ => ?_) (fun h1_ => ?_)
  · try simp only [decide_eq_true_eq, decide_eq_false_iff_not, Bool.not_eq_true', Bool.not_eq_false', Bool.and_eq_true, Bool.or_eq_true, Bool.and_eq_false_iff, Bool.or_eq_false_iff, beq_iff_eq, bne_iff_ne, beq_eq_false_iff_ne, bne_eq_false_iff_eq, ne_eq, Decidable.not_not, Bool.decide_eq_true] at h1_
    refine aw_seq ?_
    refine aw_region ?_
    refine al_opd rfl rfl rfl (ao_as (v := .bool _) rfl) ?_
    refine al_nilT ?_
    refine aw_ret ?_
    refine thenA_r ?_
    refine ends1 rfl (rv_tmp (v := .bool _) rfl) ?_
    exact ⟨by first | rfl | (simp [*]; (first | done | fail)), by (repeat (first | exact Same.refl _ _ | assumption | refine Same.push ?_ (by (first | exact Nat.le_refl _ | omega | (simp only [next_push, next_set, next_kill]; omega))) _ | refine Same.set ?_ (by (first | exact Nat.le_refl _ | omega | (simp only [next_push, next_set, next_kill]; omega))) _ | refine Same.kill ?_ (by (first | exact Nat.le_refl _ | omega | (simp only [next_push, next_set, next_kill]; omega)))))⟩
  · try simp only [decide_eq_true_eq, decide_eq_false_iff_not, Bool.not_eq_true', Bool.not_eq_false', Bool.and_eq_true, Bool.or_eq_true, Bool.and_eq_false_iff, Bool.or_eq_false_iff, beq_iff_eq, bne_iff_ne, beq_eq_false_iff_ne, bne_eq_false_iff_eq, ne_eq, Decidable.not_not, Bool.decide_eq_true] at h1_
    have hl1 : l.length ≤ 1048576 := by omega
    refine aw_skipT ?_
    refine aw_seq ?_
    refine aw_draw (m := 12) mo (by kernel_rfl) rfl (fun _ _ _ h => h) ?_
    refine dw_opd rfl rfl rfl (ao_loada Try.isAgg42 Try.sizeOf42 rfl (by ((repeat (first | exact blk_push_new _ _ | assumption | apply blk_push_old | apply blk_set_same | refine (blk_set_ne (by first | assumption | omega | (simp only [next_push, next_set, next_kill, ne_eq]; omega))).trans ?_ | refine (blk_kill_ne (by first | assumption | omega | (simp only [next_push, next_set, next_kill, ne_eq]; omega))).trans ?_)); (first | done | fail))) (by rfl) (by first | rfl | (simp; (first | done | fail)))) ?_
    refine dw_opd rfl rfl rfl (ao_calld (toRoom_c (r := r)) Try.call31 rfl rfl) ?_
    first | refine dw_opd rfl rfl rfl (ao_mv (v := .slice _ _ _) rfl) ?_ | refine dw_opd rfl rfl rfl (ao_mv (v := v) rfl) ?_
    refine dw_opn rfl rfl rfl (ao_calld (toFile_c (v := v) (l := l) (ha.mono (by (repeat (first | exact Same.refl _ _ | assumption | refine Same.push ?_ (by (first | exact Nat.le_refl _ | omega | (simp only [next_push, next_set, next_kill]; omega))) _ | refine Same.set ?_ (by (first | exact Nat.le_refl _ | omega | (simp only [next_push, next_set, next_kill]; omega))) _ | refine Same.kill ?_ (by (first | exact Nat.le_refl _ | omega | (simp only [next_push, next_set, next_kill]; omega))))))) (by omega)) Try.call19 rfl rfl) ?_
    refine dw_opd rfl rfl rfl (ao_loada Try.isAgg61 Try.sizeOf61 rfl (by ((repeat (first | exact blk_push_new _ _ | assumption | apply blk_push_old | apply blk_set_same | refine (blk_set_ne (by first | assumption | omega | (simp only [next_push, next_set, next_kill, ne_eq]; omega))).trans ?_ | refine (blk_kill_ne (by first | assumption | omega | (simp only [next_push, next_set, next_kill, ne_eq]; omega))).trans ?_)); (first | done | fail))) (by rfl) (by first | rfl | (simp; (first | done | fail)))) ?_
    refine dw_opd rfl rfl rfl (ao_calld (toSpot_c (s := s)) Try.call50 rfl rfl) ?_
    refine dw_opn rfl rfl rfl (ao_calld (specAdd0_c (l := l) (r := r) (by ((repeat (first | exact blk_push_new _ _ | assumption | apply blk_push_old | apply blk_set_same | refine (blk_set_ne (by first | assumption | omega | (simp only [next_push, next_set, next_kill, ne_eq]; omega))).trans ?_ | refine (blk_kill_ne (by first | assumption | omega | (simp only [next_push, next_set, next_kill, ne_eq]; omega))).trans ?_)); (first | done | fail))) (by omega) (by omega) hw hsp hs hv) Try.call49 rfl rfl) ?_
    refine dw_opd rfl rfl rfl (ao_mv (v := .tuple _) rfl) ?_
    refine dw_opd rfl rfl rfl (ao_extract (v := .slice _ _ _) rfl rfl) ?_
    refine dw_opd rfl rfl rfl (ao_extract (v := .int _ _) rfl rfl) ?_
    first | refine dw_opd rfl rfl rfl (ao_as (v := .slice _ _ _) rfl) ?_ | refine dw_opd rfl rfl rfl (ao_as (v := v) rfl) ?_
    refine dw_opd rfl rfl rfl (ao_as (v := .int _ _) rfl) ?_
    refine dw_end ?_
    refine al_nilT ?_
    refine aw_seq ?_
    refine aw_region ?_
    first | refine al_opd rfl rfl rfl (ao_mv (v := .slice _ _ _) rfl) ?_ | refine al_opd rfl rfl rfl (ao_mv (v := v) rfl) ?_
    refine al_opd rfl rfl rfl (ao_calld (toFile_c (v := v) (l := l) (ha.mono (by (repeat (first | exact Same.refl _ _ | assumption | refine Same.push ?_ (by (first | exact Nat.le_refl _ | omega | (simp only [next_push, next_set, next_kill]; omega))) _ | refine Same.set ?_ (by (first | exact Nat.le_refl _ | omega | (simp only [next_push, next_set, next_kill]; omega))) _ | refine Same.kill ?_ (by (first | exact Nat.le_refl _ | omega | (simp only [next_push, next_set, next_kill]; omega))))))) (by omega)) Try.call19 rfl rfl) ?_
    first | refine al_opd rfl rfl rfl (ao_as (v := .slice _ _ _) rfl) ?_ | refine al_opd rfl rfl rfl (ao_as (v := v) rfl) ?_
    refine al_nilT ?_
    refine aw_seq ?_
    refine aw_draw (m := 11) mo (by kernel_rfl) rfl (fun _ _ _ h => h) ?_
    refine dw_opd rfl rfl rfl (ao_loada Try.isAgg42 Try.sizeOf42 rfl (by ((repeat (first | exact blk_push_new _ _ | assumption | apply blk_push_old | apply blk_set_same | refine (blk_set_ne (by first | assumption | omega | (simp only [next_push, next_set, next_kill, ne_eq]; omega))).trans ?_ | refine (blk_kill_ne (by first | assumption | omega | (simp only [next_push, next_set, next_kill, ne_eq]; omega))).trans ?_)); (first | done | fail))) (by rfl) (by first | rfl | (simp; (first | done | fail)))) ?_
    refine dw_opd rfl rfl rfl (ao_calld (toRoom_c (r := r)) Try.call31 rfl rfl) ?_
    first | refine dw_opd rfl rfl rfl (ao_mv (v := .slice _ _ _) rfl) ?_ | refine dw_opd rfl rfl rfl (ao_mv (v := v) rfl) ?_
    refine dw_opd rfl rfl rfl (ao_loada Try.isAgg61 Try.sizeOf61 rfl (by ((repeat (first | exact blk_push_new _ _ | assumption | apply blk_push_old | apply blk_set_same | refine (blk_set_ne (by first | assumption | omega | (simp only [next_push, next_set, next_kill, ne_eq]; omega))).trans ?_ | refine (blk_kill_ne (by first | assumption | omega | (simp only [next_push, next_set, next_kill, ne_eq]; omega))).trans ?_)); (first | done | fail))) (by rfl) (by first | rfl | (simp; (first | done | fail)))) ?_
    refine dw_opd rfl rfl rfl (ao_calld (toSpot_c (s := s)) Try.call50 rfl rfl) ?_
    refine dw_opd rfl rfl rfl (ao_calld (implAdd0_c (l := l) (r := r) (by ((repeat (first | exact blk_push_new _ _ | assumption | apply blk_push_old | apply blk_set_same | refine (blk_set_ne (by first | assumption | omega | (simp only [next_push, next_set, next_kill, ne_eq]; omega))).trans ?_ | refine (blk_kill_ne (by first | assumption | omega | (simp only [next_push, next_set, next_kill, ne_eq]; omega))).trans ?_)); (first | done | fail))) (by omega) (by omega) hw hsp hs hv) Try.call51 rfl rfl) ?_
    refine dw_opd rfl rfl rfl (ao_mv (v := .tuple _) rfl) ?_
    refine dw_opd rfl rfl rfl (ao_extract (v := .slice _ _ _) rfl rfl) ?_
    refine dw_opd rfl rfl rfl (ao_extract (v := .int _ _) rfl rfl) ?_
    first | refine dw_opd rfl rfl rfl (ao_as (v := .slice _ _ _) rfl) ?_ | refine dw_opd rfl rfl rfl (ao_as (v := v) rfl) ?_
    refine dw_opd rfl rfl rfl (ao_as (v := .int _ _) rfl) ?_
    refine dw_end ?_
    refine al_nilT ?_
    refine aw_seq ?_
    refine aw_seq ?_
    refine aw_region ?_
    first | refine al_opd rfl rfl rfl (ao_mv (v := .slice _ _ _) rfl) ?_ | refine al_opd rfl rfl rfl (ao_mv (v := v) rfl) ?_
    first | refine al_opd rfl rfl rfl (ao_mv (v := .slice _ _ _) rfl) ?_ | refine al_opd rfl rfl rfl (ao_mv (v := v) rfl) ?_
    refine al_opd rfl rfl rfl (ao_calld (eqFile_c (l := []) (m := []) Sl.nil Sl.zero (by simp)) Try.call21 rfl rfl) ?_
    refine al_opd rfl rfl rfl (ao_not rfl) ?_
    refine al_opd rfl rfl rfl (ao_mv (v := .bool _) rfl) ?_
    refine al_cases (d := 48) rfl (fun h2_ => ?_) (fun h2_ => ?_)
    · try simp only [decide_eq_true_eq, decide_eq_false_iff_not, Bool.not_eq_true', Bool.not_eq_false', Bool.and_eq_true, Bool.or_eq_true, Bool.and_eq_false_iff, Bool.or_eq_false_iff, beq_iff_eq, bne_iff_ne, beq_eq_false_iff_ne, bne_eq_false_iff_eq, ne_eq, Decidable.not_not, Bool.decide_eq_true] at h2_
      first | done | omega | (exfalso; revert h2_; simp; (first | done | omega))
    · try simp only [decide_eq_true_eq, decide_eq_false_iff_not, Bool.not_eq_true', Bool.not_eq_false', Bool.and_eq_true, Bool.or_eq_true, Bool.and_eq_false_iff, Bool.or_eq_false_iff, beq_iff_eq, bne_iff_ne, beq_eq_false_iff_ne, bne_eq_false_iff_eq, ne_eq, Decidable.not_not, Bool.decide_eq_true] at h2_
      refine al_gyes rfl rfl rfl rfl rfl (ao_mv (v := .int _ _) rfl) ?_
      refine al_gyes rfl rfl rfl rfl rfl (ao_mv (v := .int _ _) rfl) ?_
      refine al_gyes rfl rfl rfl rfl rfl (ao_neq rfl rfl) ?_
      refine al_opd rfl rfl rfl (ao_pickF rfl (v := .bool _) rfl) ?_
      refine al_nilT ?_
      refine aw_cond rfl (fun h3_ => ?_) (fun h3_ => ?_)
      · try simp only [decide_eq_true_eq, decide_eq_false_iff_not, Bool.not_eq_true', Bool.not_eq_false', Bool.and_eq_true, Bool.or_eq_true, Bool.and_eq_false_iff, Bool.or_eq_false_iff, beq_iff_eq, bne_iff_ne, beq_eq_false_iff_ne, bne_eq_false_iff_eq, ne_eq, Decidable.not_not, Bool.decide_eq_true] at h3_
        first | done | omega | (exfalso; revert h3_; simp; (first | done | omega))
      · try simp only [decide_eq_true_eq, decide_eq_false_iff_not, Bool.not_eq_true', Bool.not_eq_false', Bool.and_eq_true, Bool.or_eq_true, Bool.and_eq_false_iff, Bool.or_eq_false_iff, beq_iff_eq, bne_iff_ne, beq_eq_false_iff_ne, bne_eq_false_iff_eq, ne_eq, Decidable.not_not, Bool.decide_eq_true] at h3_
        refine aw_skipT ?_
        refine aw_seq ?_
        refine aw_seq ?_
        refine aw_region ?_
        first | refine al_opd rfl rfl rfl (ao_mv (v := .slice _ _ _) rfl) ?_ | refine al_opd rfl rfl rfl (ao_mv (v := v) rfl) ?_
        first | refine al_opd rfl rfl rfl (ao_mv (v := .slice _ _ _) rfl) ?_ | refine al_opd rfl rfl rfl (ao_mv (v := v) rfl) ?_
        refine al_opd rfl rfl rfl (ao_calld (toFile_c (v := v) (l := l) (ha.mono (by (repeat (first | exact Same.refl _ _ | assumption | refine Same.push ?_ (by (first | exact Nat.le_refl _ | omega | (simp only [next_push, next_set, next_kill]; omega))) _ | refine Same.set ?_ (by (first | exact Nat.le_refl _ | omega | (simp only [next_push, next_set, next_kill]; omega))) _ | refine Same.kill ?_ (by (first | exact Nat.le_refl _ | omega | (simp only [next_push, next_set, next_kill]; omega))))))) (by omega)) Try.call19 rfl rfl) ?_
        refine al_opd rfl rfl rfl (ao_calld (eqFile_c (l := l) (m := l) (Sl.full spot_len (by ((repeat (first | exact blk_push_new _ _ | assumption | apply blk_push_old | apply blk_set_same | refine (blk_set_ne (by first | assumption | omega | (simp only [next_push, next_set, next_kill, ne_eq]; omega))).trans ?_ | refine (blk_kill_ne (by first | assumption | omega | (simp only [next_push, next_set, next_kill, ne_eq]; omega))).trans ?_)); (first | done | fail))) rfl rfl rfl) (Sl.full spot_len (by ((repeat (first | exact blk_push_new _ _ | assumption | apply blk_push_old | apply blk_set_same | refine (blk_set_ne (by first | assumption | omega | (simp only [next_push, next_set, next_kill, ne_eq]; omega))).trans ?_ | refine (blk_kill_ne (by first | assumption | omega | (simp only [next_push, next_set, next_kill, ne_eq]; omega))).trans ?_)); (first | done | fail))) rfl rfl rfl) (by omega)) Try.call21 rfl rfl) ?_
        refine al_opd rfl rfl rfl (ao_not rfl) ?_
        refine al_nilT ?_
        refine aw_cond rfl (fun h4_ => ?_) (fun h4_ => ?_)
        · try simp only [decide_eq_true_eq, decide_eq_false_iff_not, Bool.not_eq_true', Bool.not_eq_false', Bool.and_eq_true, Bool.or_eq_true, Bool.and_eq_false_iff, Bool.or_eq_false_iff, beq_iff_eq, bne_iff_ne, beq_eq_false_iff_ne, bne_eq_false_iff_eq, ne_eq, Decidable.not_not, Bool.decide_eq_true] at h4_
          first | done | omega | (exfalso; revert h4_; simp; (first | done | omega))
        · try simp only [decide_eq_true_eq, decide_eq_false_iff_not, Bool.not_eq_true', Bool.not_eq_false', Bool.and_eq_true, Bool.or_eq_true, Bool.and_eq_false_iff, Bool.or_eq_false_iff, beq_iff_eq, bne_iff_ne, beq_eq_false_iff_ne, bne_eq_false_iff_eq, ne_eq, Decidable.not_not, Bool.decide_eq_true] at h4_
          refine aw_skipT ?_
          refine aw_seq ?_
          refine aw_region ?_
          refine al_opd rfl rfl rfl (ao_as (v := .int _ _) rfl) ?_
          refine al_nilT ?_
          refine aw_seq ?_
          refine aw_region ?_
          first | refine al_opd rfl rfl rfl (ao_mv (v := .slice _ _ _) rfl) ?_ | refine al_opd rfl rfl rfl (ao_mv (v := v) rfl) ?_
          refine al_opd rfl rfl rfl (ao_mv (v := .int _ _) rfl) ?_
          refine al_opd rfl rfl rfl ((ao_calld (mark_file_c (l := l) (k := 1) (by ((repeat (first | exact blk_push_new _ _ | assumption | apply blk_push_old | apply blk_set_same | refine (blk_set_ne (by first | assumption | omega | (simp only [next_push, next_set, next_kill, ne_eq]; omega))).trans ?_ | refine (blk_kill_ne (by first | assumption | omega | (simp only [next_push, next_set, next_kill, ne_eq]; omega))).trans ?_)); (first | done | fail))) (by omega) (by omega)) Try.call41 rfl rfl).to (SetR.eq (by (repeat (first | exact SetR.new | exact SetR.same | (apply SetR.old; · exact ⟨_, by ((repeat (first | exact blk_push_new _ _ | assumption | apply blk_push_old | apply blk_set_same | refine (blk_set_ne (by first | assumption | omega | (simp only [next_push, next_set, next_kill, ne_eq]; omega))).trans ?_ | refine (blk_kill_ne (by first | assumption | omega | (simp only [next_push, next_set, next_kill, ne_eq]; omega))).trans ?_)); (first | done | fail))⟩) | exact SetR.base))))) ?_
          refine al_opd rfl rfl rfl (ao_as (v := .int _ _) rfl) ?_
          refine al_nilT ?_
          refine aw_seq ?_
          refine aw_seq ?_
          refine aw_region ?_
          refine al_opd rfl rfl rfl (ao_mv (v := .int _ _) rfl) ?_
          refine al_opd rfl rfl rfl (ao_lss rfl rfl) ?_
          refine al_opd rfl rfl rfl (ao_mv (v := .bool _) rfl) ?_
          refine al_cases (d := 63) rfl (fun h5_ => ?_) (fun h5_ => ?_)
          · try simp only [decide_eq_true_eq, decide_eq_false_iff_not, Bool.not_eq_true', Bool.not_eq_false', Bool.and_eq_true, Bool.or_eq_true, Bool.and_eq_false_iff, Bool.or_eq_false_iff, beq_iff_eq, bne_iff_ne, beq_eq_false_iff_ne, bne_eq_false_iff_eq, ne_eq, Decidable.not_not, Bool.decide_eq_true] at h5_
            first | done | omega | (exfalso; revert h5_; simp; (first | done | omega))
          · try simp only [decide_eq_true_eq, decide_eq_false_iff_not, Bool.not_eq_true', Bool.not_eq_false', Bool.and_eq_true, Bool.or_eq_true, Bool.and_eq_false_iff, Bool.or_eq_false_iff, beq_iff_eq, bne_iff_ne, beq_eq_false_iff_ne, bne_eq_false_iff_eq, ne_eq, Decidable.not_not, Bool.decide_eq_true] at h5_
            first | refine al_gyes rfl rfl rfl rfl rfl (ao_mv (v := .slice _ _ _) rfl) ?_ | refine al_gyes rfl rfl rfl rfl rfl (ao_mv (v := v) rfl) ?_
            first | refine al_gyes rfl rfl rfl rfl rfl (ao_mv (v := .slice _ _ _) rfl) ?_ | refine al_gyes rfl rfl rfl rfl rfl (ao_mv (v := v) rfl) ?_
            refine al_gyes rfl rfl rfl rfl rfl (ao_calld (eqFile_c (l := []) (m := []) Sl.nil Sl.zero (by simp)) Try.call21 rfl rfl) ?_
            refine al_gyes rfl rfl rfl rfl rfl (ao_not rfl) ?_
            refine al_opd rfl rfl rfl (ao_pickF rfl (v := .bool _) rfl) ?_
            refine al_opd rfl rfl rfl (ao_mv (v := .bool _) rfl) ?_
            refine al_cases (d := 69) rfl (fun h6_ => ?_) (fun h6_ => ?_)
            · try simp only [decide_eq_true_eq, decide_eq_false_iff_not, Bool.not_eq_true', Bool.not_eq_false', Bool.and_eq_true, Bool.or_eq_true, Bool.and_eq_false_iff, Bool.or_eq_false_iff, beq_iff_eq, bne_iff_ne, beq_eq_false_iff_ne, bne_eq_false_iff_eq, ne_eq, Decidable.not_not, Bool.decide_eq_true] at h6_
              first | done | omega | (exfalso; revert h6_; simp; (first | done | omega))
            · try simp only [decide_eq_true_eq, decide_eq_false_iff_not, Bool.not_eq_true', Bool.not_eq_false', Bool.and_eq_true, Bool.or_eq_true, Bool.and_eq_false_iff, Bool.or_eq_false_iff, beq_iff_eq, bne_iff_ne, beq_eq_false_iff_ne, bne_eq_false_iff_eq, ne_eq, Decidable.not_not, Bool.decide_eq_true] at h6_
              refine al_gyes rfl rfl rfl rfl rfl (ao_mv (v := .int _ _) rfl) ?_
              refine al_gyes rfl rfl rfl rfl rfl (ao_mv (v := .int _ _) rfl) ?_
              refine al_gyes rfl rfl rfl rfl rfl (ao_neq rfl rfl) ?_
              refine al_opd rfl rfl rfl (ao_pickF rfl (v := .bool _) rfl) ?_
              refine al_nilT ?_
              refine aw_cond rfl (fun h7_ => ?_) (fun h7_ => ?_)
              · try simp only [decide_eq_true_eq, decide_eq_false_iff_not, Bool.not_eq_true', Bool.not_eq_false', Bool.and_eq_true, Bool.or_eq_true, Bool.and_eq_false_iff, Bool.or_eq_false_iff, beq_iff_eq, bne_iff_ne, beq_eq_false_iff_ne, bne_eq_false_iff_eq, ne_eq, Decidable.not_not, Bool.decide_eq_true] at h7_
                first | done | omega | (exfalso; revert h7_; simp; (first | done | omega))
              · try simp only [decide_eq_true_eq, decide_eq_false_iff_not, Bool.not_eq_true', Bool.not_eq_false', Bool.and_eq_true, Bool.or_eq_true, Bool.and_eq_false_iff, Bool.or_eq_false_iff, beq_iff_eq, bne_iff_ne, beq_eq_false_iff_ne, bne_eq_false_iff_eq, ne_eq, Decidable.not_not, Bool.decide_eq_true] at h7_
                refine aw_skipT ?_
                refine aw_seq ?_
                refine aw_region ?_
                refine al_opd rfl rfl rfl (ao_as (v := .int _ _) rfl) ?_
                refine al_nilT ?_
                refine aw_seq ?_
                refine aw_region ?_
                first | refine al_opd rfl rfl rfl (ao_mv (v := .slice _ _ _) rfl) ?_ | refine al_opd rfl rfl rfl (ao_mv (v := v) rfl) ?_
                refine al_opd rfl rfl rfl (ao_mv (v := .int _ _) rfl) ?_
                refine al_opd rfl rfl rfl (ao_calld (mark0_file_c (k := 1)) Try.call41 rfl rfl) ?_
                refine al_opd rfl rfl rfl (ao_as (v := .int _ _) rfl) ?_
                refine al_nilT ?_
                refine aw_seq ?_
                refine aw_region ?_
                refine al_opd rfl rfl rfl (ao_as (v := .int _ _) rfl) ?_
                refine al_nilT ?_
                refine aw_seq ?_
                refine aw_region ?_
                first | refine al_opd rfl rfl rfl (ao_mv (v := .slice _ _ _) rfl) ?_ | refine al_opd rfl rfl rfl (ao_mv (v := v) rfl) ?_
                refine al_opd rfl rfl rfl (ao_mv (v := .int _ _) rfl) ?_
                refine al_opd rfl rfl rfl (ao_calld (held_file_c (n := 0) (k := 1) Sl.nil (by omega) (by omega)) Try.call42 rfl rfl) ?_
                refine al_opd rfl rfl rfl (ao_as (v := .int _ _) rfl) ?_
                refine al_nilT ?_
                refine aw_seq ?_
                refine aw_seq ?_
                refine aw_region ?_
                refine al_opd rfl rfl rfl (ao_mv (v := .int _ _) rfl) ?_
                refine al_opd rfl rfl rfl (ao_lss rfl rfl) ?_
                refine al_nilT ?_
                refine aw_cond rfl (fun h8_ => ?_) (fun h8_ => ?_)
                · try simp only [decide_eq_true_eq, decide_eq_false_iff_not, Bool.not_eq_true', Bool.not_eq_false', Bool.and_eq_true, Bool.or_eq_true, Bool.and_eq_false_iff, Bool.or_eq_false_iff, beq_iff_eq, bne_iff_ne, beq_eq_false_iff_ne, bne_eq_false_iff_eq, ne_eq, Decidable.not_not, Bool.decide_eq_true] at h8_
                  first | done | omega | (exfalso; revert h8_; simp; (first | done | omega))
                · try simp only [decide_eq_true_eq, decide_eq_false_iff_not, Bool.not_eq_true', Bool.not_eq_false', Bool.and_eq_true, Bool.or_eq_true, Bool.and_eq_false_iff, Bool.or_eq_false_iff, beq_iff_eq, bne_iff_ne, beq_eq_false_iff_ne, bne_eq_false_iff_eq, ne_eq, Decidable.not_not, Bool.decide_eq_true] at h8_
                  refine aw_skipT ?_
                  refine aw_seq ?_
                  refine aw_seq ?_
                  refine aw_region ?_
                  refine al_opd rfl rfl rfl (ao_mv (v := .int _ _) rfl) ?_
                  refine al_opd rfl rfl rfl (ao_mv (v := .int _ _) rfl) ?_
                  refine al_opd rfl rfl rfl (ao_neq rfl rfl) ?_
                  refine al_nilT ?_
                  refine aw_cond rfl (fun h9_ => ?_) (fun h9_ => ?_)
                  · try simp only [decide_eq_true_eq, decide_eq_false_iff_not, Bool.not_eq_true', Bool.not_eq_false', Bool.and_eq_true, Bool.or_eq_true, Bool.and_eq_false_iff, Bool.or_eq_false_iff, beq_iff_eq, bne_iff_ne, beq_eq_false_iff_ne, bne_eq_false_iff_eq, ne_eq, Decidable.not_not, Bool.decide_eq_true] at h9_
                    first | done | omega | (exfalso; revert h9_; simp; (first | done | omega))
                  · try simp only [decide_eq_true_eq, decide_eq_false_iff_not, Bool.not_eq_true', Bool.not_eq_false', Bool.and_eq_true, Bool.or_eq_true, Bool.and_eq_false_iff, Bool.or_eq_false_iff, beq_iff_eq, bne_iff_ne, beq_eq_false_iff_ne, bne_eq_false_iff_eq, ne_eq, Decidable.not_not, Bool.decide_eq_true] at h9_
                    refine aw_skipT ?_
                    refine aw_seq ?_
                    refine aw_draw (m := 12) mo (by kernel_rfl) rfl (fun _ _ _ h => h) ?_
                    refine dw_opd rfl rfl rfl (ao_loada Try.isAgg42 Try.sizeOf42 rfl (by ((repeat (first | exact blk_push_new _ _ | assumption | apply blk_push_old | apply blk_set_same | refine (blk_set_ne (by first | assumption | omega | (simp only [next_push, next_set, next_kill, ne_eq]; omega))).trans ?_ | refine (blk_kill_ne (by first | assumption | omega | (simp only [next_push, next_set, next_kill, ne_eq]; omega))).trans ?_)); (first | done | fail))) (by rfl) (by first | rfl | (simp; (first | done | fail)))) ?_
                    refine dw_opd rfl rfl rfl (ao_calld (toRoom_c (r := r)) Try.call31 rfl rfl) ?_
                    first | refine dw_opd rfl rfl rfl (ao_mv (v := .slice _ _ _) rfl) ?_ | refine dw_opd rfl rfl rfl (ao_mv (v := v) rfl) ?_
                    refine dw_opn rfl rfl rfl (ao_calld (toFile_c (v := v) (l := l) (ha.mono (by (repeat (first | exact Same.refl _ _ | assumption | refine Same.push ?_ (by (first | exact Nat.le_refl _ | omega | (simp only [next_push, next_set, next_kill]; omega))) _ | refine Same.set ?_ (by (first | exact Nat.le_refl _ | omega | (simp only [next_push, next_set, next_kill]; omega))) _ | refine Same.kill ?_ (by (first | exact Nat.le_refl _ | omega | (simp only [next_push, next_set, next_kill]; omega))))))) (by omega)) Try.call19 rfl rfl) ?_
                    refine dw_opd rfl rfl rfl (ao_loada Try.isAgg61 Try.sizeOf61 rfl (by ((repeat (first | exact blk_push_new _ _ | assumption | apply blk_push_old | apply blk_set_same | refine (blk_set_ne (by first | assumption | omega | (simp only [next_push, next_set, next_kill, ne_eq]; omega))).trans ?_ | refine (blk_kill_ne (by first | assumption | omega | (simp only [next_push, next_set, next_kill, ne_eq]; omega))).trans ?_)); (first | done | fail))) (by rfl) (by first | rfl | (simp; (first | done | fail)))) ?_
                    refine dw_opd rfl rfl rfl (ao_calld (toSpot_c (s := s)) Try.call50 rfl rfl) ?_
                    refine dw_opd rfl rfl rfl (ao_calld (implAdd0_c (l := l) (r := r) (by ((repeat (first | exact blk_push_new _ _ | assumption | apply blk_push_old | apply blk_set_same | refine (blk_set_ne (by first | assumption | omega | (simp only [next_push, next_set, next_kill, ne_eq]; omega))).trans ?_ | refine (blk_kill_ne (by first | assumption | omega | (simp only [next_push, next_set, next_kill, ne_eq]; omega))).trans ?_)); (first | done | fail))) (by omega) (by omega) hw hsp hs hv) Try.call51 rfl rfl) ?_
                    refine dw_opd rfl rfl rfl (ao_mv (v := .tuple _) rfl) ?_
                    refine dw_opd rfl rfl rfl (ao_extract (v := .slice _ _ _) rfl rfl) ?_
                    refine dw_opd rfl rfl rfl (ao_extract (v := .int _ _) rfl rfl) ?_
                    first | refine dw_opd rfl rfl rfl (ao_as (v := .slice _ _ _) rfl) ?_ | refine dw_opd rfl rfl rfl (ao_as (v := v) rfl) ?_
                    refine dw_opd rfl rfl rfl (ao_as (v := .int _ _) rfl) ?_
                    refine dw_end ?_
                    refine al_nilT ?_
                    refine aw_seq ?_
                    refine aw_seq ?_
                    refine aw_region ?_
                    first | refine al_opd rfl rfl rfl (ao_mv (v := .slice _ _ _) rfl) ?_ | refine al_opd rfl rfl rfl (ao_mv (v := v) rfl) ?_
                    first | refine al_opd rfl rfl rfl (ao_mv (v := .slice _ _ _) rfl) ?_ | refine al_opd rfl rfl rfl (ao_mv (v := v) rfl) ?_
                    refine al_opd rfl rfl rfl (ao_calld (eqFile_c (l := []) (m := []) Sl.nil Sl.zero (by simp)) Try.call21 rfl rfl) ?_
                    refine al_opd rfl rfl rfl (ao_not rfl) ?_
                    refine al_opd rfl rfl rfl (ao_mv (v := .bool _) rfl) ?_
                    refine al_cases (d := 99) rfl (fun h10_ => ?_) (fun h10_ => ?_)
                    · try simp only [decide_eq_true_eq, decide_eq_false_iff_not, Bool.not_eq_true', Bool.not_eq_false', Bool.and_eq_true, Bool.or_eq_true, Bool.and_eq_false_iff, Bool.or_eq_false_iff, beq_iff_eq, bne_iff_ne, beq_eq_false_iff_ne, bne_eq_false_iff_eq, ne_eq, Decidable.not_not, Bool.decide_eq_true] at h10_
                      first | done | omega | (exfalso; revert h10_; simp; (first | done | omega))
                    · try simp only [decide_eq_true_eq, decide_eq_false_iff_not, Bool.not_eq_true', Bool.not_eq_false', Bool.and_eq_true, Bool.or_eq_true, Bool.and_eq_false_iff, Bool.or_eq_false_iff, beq_iff_eq, bne_iff_ne, beq_eq_false_iff_ne, bne_eq_false_iff_eq, ne_eq, Decidable.not_not, Bool.decide_eq_true] at h10_
                      refine al_gyes rfl rfl rfl rfl rfl (ao_mv (v := .int _ _) rfl) ?_
                      refine al_gyes rfl rfl rfl rfl rfl (ao_mv (v := .int _ _) rfl) ?_
                      refine al_gyes rfl rfl rfl rfl rfl (ao_neq rfl rfl) ?_
                      refine al_opd rfl rfl rfl (ao_pickF rfl (v := .bool _) rfl) ?_
                      refine al_nilT ?_
                      refine aw_cond rfl (fun h11_ => ?_) (fun h11_ => ?_)
                      · try simp only [decide_eq_true_eq, decide_eq_false_iff_not, Bool.not_eq_true', Bool.not_eq_false', Bool.and_eq_true, Bool.or_eq_true, Bool.and_eq_false_iff, Bool.or_eq_false_iff, beq_iff_eq, bne_iff_ne, beq_eq_false_iff_ne, bne_eq_false_iff_eq, ne_eq, Decidable.not_not, Bool.decide_eq_true] at h11_
                        first | done | omega | (exfalso; revert h11_; simp; (first | done | omega))
                      · try simp only [decide_eq_true_eq, decide_eq_false_iff_not, Bool.not_eq_true', Bool.not_eq_false', Bool.and_eq_true, Bool.or_eq_true, Bool.and_eq_false_iff, Bool.or_eq_false_iff, beq_iff_eq, bne_iff_ne, beq_eq_false_iff_ne, bne_eq_false_iff_eq, ne_eq, Decidable.not_not, Bool.decide_eq_true] at h11_
                        refine aw_skipT ?_
                        refine aw_seq ?_
                        refine aw_region ?_
                        refine al_opd rfl rfl rfl (ao_as (v := .int _ _) rfl) ?_
                        refine al_nilT ?_
                        refine aw_seq ?_
                        refine aw_region ?_
                        first | refine al_opd rfl rfl rfl (ao_mv (v := .slice _ _ _) rfl) ?_ | refine al_opd rfl rfl rfl (ao_mv (v := v) rfl) ?_
                        refine al_opd rfl rfl rfl (ao_mv (v := .int _ _) rfl) ?_
                        refine al_opd rfl rfl rfl (ao_calld (held_file_c (n := 0) (k := 1) Sl.nil (by omega) (by omega)) Try.call42 rfl rfl) ?_
                        refine al_opd rfl rfl rfl (ao_as (v := .int _ _) rfl) ?_
                        refine al_nilT ?_
                        refine aw_seq ?_
                        refine aw_seq ?_
                        refine aw_region ?_
                        refine al_opd rfl rfl rfl (ao_mv (v := .int _ _) rfl) ?_
                        refine al_opd rfl rfl rfl (ao_lss rfl rfl) ?_
                        refine al_nilT ?_
                        refine aw_cond rfl (fun h12_ => ?_) (fun h12_ => ?_)
                        · try simp only [decide_eq_true_eq, decide_eq_false_iff_not, Bool.not_eq_true', Bool.not_eq_false', Bool.and_eq_true, Bool.or_eq_true, Bool.and_eq_false_iff, Bool.or_eq_false_iff, beq_iff_eq, bne_iff_ne, beq_eq_false_iff_ne, bne_eq_false_iff_eq, ne_eq, Decidable.not_not, Bool.decide_eq_true] at h12_
                          first | done | omega | (exfalso; revert h12_; simp; (first | done | omega))
                        · try simp only [decide_eq_true_eq, decide_eq_false_iff_not, Bool.not_eq_true', Bool.not_eq_false', Bool.and_eq_true, Bool.or_eq_true, Bool.and_eq_false_iff, Bool.or_eq_false_iff, beq_iff_eq, bne_iff_ne, beq_eq_false_iff_ne, bne_eq_false_iff_eq, ne_eq, Decidable.not_not, Bool.decide_eq_true] at h12_
                          refine aw_skipT ?_
                          refine aw_seq ?_
                          refine aw_seq ?_
                          refine aw_region ?_
                          refine al_opd rfl rfl rfl (ao_mv (v := .int _ _) rfl) ?_
                          refine al_opd rfl rfl rfl (ao_mv (v := .int _ _) rfl) ?_
                          refine al_opd rfl rfl rfl (ao_neq rfl rfl) ?_
                          refine al_nilT ?_
                          refine aw_cond rfl (fun h13_ => ?_) (fun h13_ => ?_)
                          · try simp only [decide_eq_true_eq, decide_eq_false_iff_not, Bool.not_eq_true', Bool.not_eq_false', Bool.and_eq_true, Bool.or_eq_true, Bool.and_eq_false_iff, Bool.or_eq_false_iff, beq_iff_eq, bne_iff_ne, beq_eq_false_iff_ne, bne_eq_false_iff_eq, ne_eq, Decidable.not_not, Bool.decide_eq_true] at h13_
                            first | done | omega | (exfalso; revert h13_; simp; (first | done | omega))
                          · try simp only [decide_eq_true_eq, decide_eq_false_iff_not, Bool.not_eq_true', Bool.not_eq_false', Bool.and_eq_true, Bool.or_eq_true, Bool.and_eq_false_iff, Bool.or_eq_false_iff, beq_iff_eq, bne_iff_ne, beq_eq_false_iff_ne, bne_eq_false_iff_eq, ne_eq, Decidable.not_not, Bool.decide_eq_true] at h13_
                            refine aw_skipT ?_
                            refine aw_seq ?_
                            refine aw_region ?_
                            refine al_opd rfl rfl rfl (ao_as (v := .bool _) rfl) ?_
                            refine al_nilT ?_
                            refine aw_ret ?_
                            refine ends1 rfl (rv_tmp (v := .bool _) rfl) ?_
                            exact ⟨by first | rfl | (simp [*]; (first | done | fail)), by (repeat (first | exact Same.refl _ _ | assumption | refine Same.push ?_ (by (first | exact Nat.le_refl _ | omega | (simp only [next_push, next_set, next_kill]; omega))) _ | refine Same.set ?_ (by (first | exact Nat.le_refl _ | omega | (simp only [next_push, next_set, next_kill]; omega))) _ | refine Same.kill ?_ (by (first | exact Nat.le_refl _ | omega | (simp only [next_push, next_set, next_kill]; omega)))))⟩

theorem lawAdd_c {r : Room} {v : Value} {l : List Spot} {s : Spot} {H : AHeap} (hw : wfRoom r) (ha : Sl H spot 2 v l) (hl : l.length ≤ 9223372036854775807) (hsp : wfSpots l) (hs : wfSpot s) : ACd Try.prog 14 [.agg (roomC r).toArray, v, .agg #[.int .i8 s.x, .int .i8 s.y]] H (.bool true) H := by
  by_cases hv : okFile r l
  · by_cases h12 : l.length = 12
    · exact lawAdd3_c hw ha hl hsp hs hv h12
    · by_cases hf : fileOk r (l ++ [s])
      · exact lawAdd1_c hw ha hl hsp hs hv h12 hf
      · exact lawAdd4_c hw ha hl hsp hs hv h12 hf
  · exact lawAdd0_c hw ha hl hsp hs hv

end Go.Proofs.Ytokgcdacdmllbaa
