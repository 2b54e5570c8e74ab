/- Contracts of the program's functions over abstract heaps. -/
import Derived.Test.YtkjmcolnoehjbaaBfs9
import Derived.Test.YtkjmcolnoehjbaaVr
import Derived.Test.YtkjmcolnoehjbaaFr
import Derived.Test.YtkjmcolnoehjbaaFr2
import Derived.Test.YtkjmcolnoehjbaaPa2
namespace Go.Proofs.Ytkjmcolnoehjbaa
open Go Go.AW Go.Proofs
set_option linter.unusedVariables false
set_option linter.unusedSimpArgs false
set_option maxRecDepth 100000
set_option maxHeartbeats 2000000

-- impl.NarrowCells$1
theorem narrow1_c {r : Room} {s : Spot} {b1 b2 : Nat} {H : AHeap} (h1 : H.blk b1 = some (.cells (roomC r) 1)) (h2 : H.blk b2 = some (.cells [.int .i64 (partsL r).length] 1)) (hr : okRoom r) (hw : wfRoom r) (hs : wfSpot s) : ACd Try.prog 55 [.agg #[.int .i8 s.x, .int .i8 s.y], .pointer (some ⟨b1, 0, none⟩), .pointer (some ⟨b2, 0, none⟩)] H (.bool (narrowB r s)) (H) := by
  refine ac_gc0 (fun β => VR.plainT β (by first | rfl | simp [plainT, plainV, plain1])) (ac_body Try.func55 rfl Try.ntmps55 rfl ?_)
  refine aw_seq ?_
  refine aw_region ?_
  refine al_opd rfl rfl rfl (ao_boxa (by rfl)) ?_
  refine al_opd rfl rfl rfl (ao_as (v := .bool _) rfl) ?_
  refine al_nilT ?_
  refine aw_seq ?_
  refine aw_draw (m := 13) mo (by kernel_rfl) rfl (fun _ _ _ h => h) ?_
  refine dw_opd rfl rfl rfl (ao_loada Try.isAgg31 Try.sizeOf31 rfl (by ((repeat (first | exact blk_push_new _ _ | assumption | apply blk_push_old | apply blk_addP_old | apply blk_set_same | refine (blk_set_ne (by first | assumption | omega | (simp only [next_push, next_set, next_kill, next_addP, ne_eq]; omega))).trans ?_ | refine (blk_kill_ne (by first | assumption | omega | (simp only [next_push, next_set, next_kill, next_addP, ne_eq]; omega))).trans ?_)); (first | done | fail))) (by rfl) (by first | rfl | (simp; (first | done | fail)))) ?_
  refine dw_opd rfl rfl rfl (ao_loada Try.isAgg33 Try.sizeOf33 rfl (by ((repeat (first | exact blk_push_new _ _ | assumption | apply blk_push_old | apply blk_addP_old | apply blk_set_same | refine (blk_set_ne (by first | assumption | omega | (simp only [next_push, next_set, next_kill, next_addP, ne_eq]; omega))).trans ?_ | refine (blk_kill_ne (by first | assumption | omega | (simp only [next_push, next_set, next_kill, next_addP, ne_eq]; omega))).trans ?_)); (first | done | fail))) (by rfl) (by first | rfl | (simp; (first | done | fail)))) ?_
  refine dw_opd rfl rfl rfl (ao_calld (isFree_c (r := r) (s := s) (b := freeB r s) hw hs (freeB_iff r s)) Try.call56 rfl rfl) ?_
  refine dw_opd rfl rfl rfl (ao_mv (v := .bool _) rfl) ?_
  refine dw_cases (d := 8) rfl (fun h1_ => ?_) (fun h1_ => ?_)
  · try simp only [decide_eq_true_eq, decide_eq_false_iff_not, Bool.not_eq_true', Bool.not_eq_false', Bool.and_eq_true, Bool.or_eq_true, Bool.and_eq_false_iff, Bool.or_eq_false_iff, beq_iff_eq, bne_iff_ne, beq_eq_false_iff_ne, bne_eq_false_iff_eq, ne_eq, Decidable.not_not, Bool.decide_eq_true] at h1_
    have hfr := (freeB_iff r s).mp h1_
    have ⟨c1, c2, c3, c4, c5, c6⟩ := hfr.1
    have hna := narrow_at hfr
    refine dw_gyes rfl rfl rfl rfl rfl (ao_loada Try.isAgg31 Try.sizeOf31 rfl (by ((repeat (first | exact blk_push_new _ _ | assumption | apply blk_push_old | apply blk_addP_old | apply blk_set_same | refine (blk_set_ne (by first | assumption | omega | (simp only [next_push, next_set, next_kill, next_addP, ne_eq]; omega))).trans ?_ | refine (blk_kill_ne (by first | assumption | omega | (simp only [next_push, next_set, next_kill, next_addP, ne_eq]; omega))).trans ?_)); (first | done | fail))) (by rfl) (by first | rfl | (simp; (first | done | fail)))) ?_
    refine dw_gyes rfl rfl rfl rfl rfl (ao_loada Try.isAgg33 Try.sizeOf33 rfl (by ((repeat (first | exact blk_push_new _ _ | assumption | apply blk_push_old | apply blk_addP_old | apply blk_set_same | refine (blk_set_ne (by first | assumption | omega | (simp only [next_push, next_set, next_kill, next_addP, ne_eq]; omega))).trans ?_ | refine (blk_kill_ne (by first | assumption | omega | (simp only [next_push, next_set, next_kill, next_addP, ne_eq]; omega))).trans ?_)); (first | done | fail))) (by rfl) (by first | rfl | (simp; (first | done | fail)))) ?_
    refine dw_gyes rfl rfl rfl rfl rfl (ao_calld (withR_c (r := r) (s := s) (on := true) (by omega) (by omega)) Try.call57 rfl rfl) ?_
    refine dw_gyesw rfl rfl rfl rfl rfl (Same.addP (Same.refl _ _) (Nat.le_refl _) _) (by rw [next_addP]; omega) (ao_calld (implParts_c (r := (wallR r s true)) (wallR_ok hr hw hfr.1) (wallR_wf hw)) Try.call53 rfl rfl) ?_
    first | refine dw_gyes rfl rfl rfl rfl rfl (ao_lenS Try.underlying49 (by rfl)) ?_ | refine dw_gyes rfl rfl rfl rfl rfl (ao_lenN Try.underlying49 (by rfl)) ?_
    refine dw_gyes rfl rfl rfl rfl rfl (ao_load (v := .int _ _) Try.isAgg3 (by rfl) (by ((repeat (first | exact blk_push_new _ _ | assumption | apply blk_push_old | apply blk_addP_old | apply blk_set_same | refine (blk_set_ne (by first | assumption | omega | (simp only [next_push, next_set, next_kill, next_addP, ne_eq]; omega))).trans ?_ | refine (blk_kill_ne (by first | assumption | omega | (simp only [next_push, next_set, next_kill, next_addP, ne_eq]; omega))).trans ?_)); (first | done | fail))) (by rfl) (by first | rfl | (simp; (first | done | fail)))) ?_
    refine dw_gyes rfl rfl rfl rfl rfl (ao_gtr rfl rfl) ?_
    refine dw_opd rfl rfl rfl (ao_pickT rfl (v := .bool _) rfl) ?_
    refine dw_opd rfl rfl rfl (ao_as (v := .bool _) rfl) ?_
    refine dw_end ?_
    refine al_nilT ?_
    refine aw_ret ?_
    refine ends1 rfl (rv_tmp (v := .bool _) rfl) ?_
    rw [hna]
    exact ⟨by first | rfl | (simp; done) | (congr 2; omega) | (rw [decide_eq_decide.mpr (by omega)]), by (repeat (first | exact Same.refl _ _ | assumption | refine Same.addP ?_ (by (first | exact Nat.le_refl _ | omega | (simp only [next_push, next_set, next_kill, next_addP]; omega))) _ | refine Same.push ?_ (by (first | exact Nat.le_refl _ | omega | (simp only [next_push, next_set, next_kill, next_addP]; omega))) _ | refine Same.set ?_ (by (first | exact Nat.le_refl _ | omega | (simp only [next_push, next_set, next_kill, next_addP]; omega))) _ | refine Same.kill ?_ (by (first | exact Nat.le_refl _ | omega | (simp only [next_push, next_set, next_kill, next_addP]; omega)))))⟩
  · try simp only [decide_eq_true_eq, decide_eq_false_iff_not, Bool.not_eq_true', Bool.not_eq_false', Bool.and_eq_true, Bool.or_eq_true, Bool.and_eq_false_iff, Bool.or_eq_false_iff, beq_iff_eq, bne_iff_ne, beq_eq_false_iff_ne, bne_eq_false_iff_eq, ne_eq, Decidable.not_not, Bool.decide_eq_true] at h1_
    have hna : narrowB r s = false := by unfold narrowB; rw [show freeB r s = false by simpa using h1_]; rfl
    refine dw_gno rfl rfl rfl rfl rfl rfl ?_
    refine dw_gno rfl rfl rfl rfl rfl rfl ?_
    refine dw_gno rfl rfl rfl rfl rfl rfl ?_
    refine dw_gno rfl rfl rfl rfl rfl rfl ?_
    refine dw_gno rfl rfl rfl rfl rfl rfl ?_
    refine dw_gno rfl rfl rfl rfl rfl rfl ?_
    refine dw_gno rfl rfl rfl rfl rfl rfl ?_
    refine dw_opd rfl rfl rfl (ao_pickF rfl (v := .bool _) rfl) ?_
    refine dw_opd rfl rfl rfl (ao_as (v := .bool _) rfl) ?_
    refine dw_end ?_
    refine al_nilT ?_
    refine aw_ret ?_
    refine ends1 rfl (rv_tmp (v := .bool _) rfl) ?_
    rw [hna]
    exact ⟨by first | rfl | (simp; done) | (congr 2; omega) | (rw [decide_eq_decide.mpr (by omega)]), by (repeat (first | exact Same.refl _ _ | assumption | refine Same.addP ?_ (by (first | exact Nat.le_refl _ | omega | (simp only [next_push, next_set, next_kill, next_addP]; omega))) _ | refine Same.push ?_ (by (first | exact Nat.le_refl _ | omega | (simp only [next_push, next_set, next_kill, next_addP]; omega))) _ | refine Same.set ?_ (by (first | exact Nat.le_refl _ | omega | (simp only [next_push, next_set, next_kill, next_addP]; omega))) _ | refine Same.kill ?_ (by (first | exact Nat.le_refl _ | omega | (simp only [next_push, next_set, next_kill, next_addP]; omega)))))⟩

-- impl.NarrowCells
theorem implNar1_c {r : Room} {H : AHeap} (hw : wfRoom r) (hr : okRoom r) : ACd Try.prog 25 [.agg (roomC r).toArray] H (.tuple #[.slice (some ⟨H.next, 0, none⟩) (narrowL r).length ((narrowL r).length + 1), .int .i64 0]) (H.push (.cells (fl spot (narrowL r)) 2)) := by
  have ⟨r1, r2, r3, r4, r5⟩ := hr
  have hnl : (narrowL r).length ≤ 100 := filter_len r (narrowB r) hr.2.1 hr.2.2.2.1
  have hpl := parts_le r
  refine ac_gcs (vrl_fl spot_plain _) (ac_body Try.func25 rfl Try.ntmps25 rfl ?_)
  refine aw_seq ?_
  refine aw_region ?_
  refine al_opd rfl rfl rfl (ao_boxa (by rfl)) ?_
  refine al_opd rfl rfl rfl (ao_as (v := .slice _ _ _) rfl) ?_
  refine al_opd rfl rfl rfl (ao_as (v := .int _ _) rfl) ?_
  refine al_nilT ?_
  refine aw_seq ?_
  refine aw_seq ?_
  refine aw_region ?_
  refine al_opd rfl rfl rfl (ao_loada Try.isAgg31 Try.sizeOf31 rfl (by ((repeat (first | exact blk_push_new _ _ | assumption | apply blk_push_old | apply blk_addP_old | apply blk_set_same | refine (blk_set_ne (by first | assumption | omega | (simp only [next_push, next_set, next_kill, next_addP, ne_eq]; omega))).trans ?_ | refine (blk_kill_ne (by first | assumption | omega | (simp only [next_push, next_set, next_kill, next_addP, ne_eq]; omega))).trans ?_)); (first | done | fail))) (by rfl) (by first | rfl | (simp; (first | done | fail)))) ?_
  refine al_opd rfl rfl rfl (ao_calld (implValid_c (r := r) (b := true) hw (yes hr)) Try.call52 rfl rfl) ?_
  refine al_opd rfl rfl rfl (ao_not rfl) ?_
  refine al_nilT ?_
  refine aw_cond rfl (fun h1_ => ?_) (fun h1_ => ?_)
  · try simp only [decide_eq_true_eq, decide_eq_false_iff_not, Bool.not_eq_true', Bool.not_eq_false', Bool.and_eq_true, Bool.or_eq_true, Bool.and_eq_false_iff, Bool.or_eq_false_iff, beq_iff_eq, bne_iff_ne, beq_eq_false_iff_ne, bne_eq_false_iff_eq, ne_eq, Decidable.not_not, Bool.decide_eq_true] at h1_
    first | done | omega | (exfalso; revert h1_; simp; (first | done | omega))
  · try simp only [decide_eq_true_eq, decide_eq_false_iff_not, Bool.not_eq_true', Bool.not_eq_false', Bool.and_eq_true, Bool.or_eq_true, Bool.and_eq_false_iff, Bool.or_eq_false_iff, beq_iff_eq, bne_iff_ne, beq_eq_false_iff_ne, bne_eq_false_iff_eq, ne_eq, Decidable.not_not, Bool.decide_eq_true] at h1_
    refine aw_skipT ?_
    refine aw_seq ?_
    refine aw_region ?_
    refine al_opd rfl rfl rfl (ao_loada Try.isAgg31 Try.sizeOf31 rfl (by ((repeat (first | exact blk_push_new _ _ | assumption | apply blk_push_old | apply blk_addP_old | apply blk_set_same | refine (blk_set_ne (by first | assumption | omega | (simp only [next_push, next_set, next_kill, next_addP, ne_eq]; omega))).trans ?_ | refine (blk_kill_ne (by first | assumption | omega | (simp only [next_push, next_set, next_kill, next_addP, ne_eq]; omega))).trans ?_)); (first | done | fail))) (by rfl) (by first | rfl | (simp; (first | done | fail)))) ?_
    refine al_opd rfl rfl rfl (ao_calld (implParts_c (r := r) hr hw) Try.call53 rfl rfl) ?_
    first | refine al_opd rfl rfl rfl (ao_lenS Try.underlying49 (by rfl)) ?_ | refine al_opd rfl rfl rfl (ao_lenN Try.underlying49 (by rfl)) ?_
    refine al_opd rfl rfl rfl (ao_alloc1 Try.zeroValue3 rfl rfl) ?_
    refine al_opd rfl rfl rfl ((ao_store1 (v := .int _ _) Try.sizeOf3 (by rfl) (by rfl) (by ((repeat (first | exact blk_push_new _ _ | assumption | apply blk_push_old | apply blk_addP_old | apply blk_set_same | refine (blk_set_ne (by first | assumption | omega | (simp only [next_push, next_set, next_kill, next_addP, ne_eq]; omega))).trans ?_ | refine (blk_kill_ne (by first | assumption | omega | (simp only [next_push, next_set, next_kill, next_addP, ne_eq]; omega))).trans ?_)); (first | done | fail))) (by rfl) (by first | decide | (simp; (first | done | fail)) | (simp; omega))).to (SetR.eq (by (repeat (first | exact SetR.new | exact SetR.same | (apply SetR.old; · exact ⟨_, by ((repeat (first | exact blk_push_new _ _ | assumption | apply blk_push_old | apply blk_set_same | refine (blk_set_ne (by first | assumption | omega | (simp only [next_push, next_set, next_kill, ne_eq]; omega))).trans ?_ | refine (blk_kill_ne (by first | assumption | omega | (simp only [next_push, next_set, next_kill, ne_eq]; omega))).trans ?_)); (first | done | fail))⟩) | exact SetR.base))))) ?_
    refine al_nilT ?_
    refine aw_seq ?_
    refine aw_region ?_
    refine al_opd rfl rfl rfl (ao_loada Try.isAgg31 Try.sizeOf31 rfl (by ((repeat (first | exact blk_push_new _ _ | assumption | apply blk_push_old | apply blk_addP_old | apply blk_set_same | refine (blk_set_ne (by first | assumption | omega | (simp only [next_push, next_set, next_kill, next_addP, ne_eq]; omega))).trans ?_ | refine (blk_kill_ne (by first | assumption | omega | (simp only [next_push, next_set, next_kill, next_addP, ne_eq]; omega))).trans ?_)); (first | done | fail))) (by rfl) (by first | rfl | (simp; (first | done | fail)))) ?_
    refine al_opd rfl rfl rfl (ao_makeFunc rfl rfl) ?_
    refine al_opd rfl rfl rfl (ao_calld (cells_c (fnum := 55) (fs := #[]) (cs := #[.pointer (some ⟨H.next, 0, none⟩), .pointer (some ⟨((H.push (.cells (roomC r) 1)).addP (partsL r)).next, 0, none⟩)]) (r := r) (p := narrowB r) Try.call55 (fun G x y hs hx hy => narrow1_c (r := r) (s := ⟨(x : Int), (y : Int)⟩) ((hs _ (by (first | omega | (simp only [next_push, next_set, next_kill, next_addP, ne_eq]; omega)))).trans (by ((repeat (first | exact blk_push_new _ _ | assumption | apply blk_push_old | apply blk_addP_old | apply blk_set_same | refine (blk_set_ne (by first | assumption | omega | (simp only [next_push, next_set, next_kill, next_addP, ne_eq]; omega))).trans ?_ | refine (blk_kill_ne (by first | assumption | omega | (simp only [next_push, next_set, next_kill, next_addP, ne_eq]; omega))).trans ?_)); (first | done | fail)))) ((hs _ (by (first | omega | (simp only [next_push, next_set, next_kill, next_addP, ne_eq]; omega)))).trans (by ((repeat (first | exact blk_push_new _ _ | assumption | apply blk_push_old | apply blk_addP_old | apply blk_set_same | refine (blk_set_ne (by first | assumption | omega | (simp only [next_push, next_set, next_kill, next_addP, ne_eq]; omega))).trans ?_ | refine (blk_kill_ne (by first | assumption | omega | (simp only [next_push, next_set, next_kill, next_addP, ne_eq]; omega))).trans ?_)); (first | done | fail)))) hr hw ⟨⟨by show (-128 : Int) ≤ (x : Int); omega, by show (x : Int) ≤ 127; omega⟩, ⟨by show (-128 : Int) ≤ (y : Int); omega, by show (y : Int) ≤ 127; omega⟩⟩) (by omega)) Try.call54 rfl rfl) ?_
    refine al_opd rfl rfl rfl (ao_as (v := .slice _ _ _) rfl) ?_
    refine al_opd rfl rfl rfl (ao_as (v := .int _ _) rfl) ?_
    refine al_nilT ?_
    refine aw_ret ?_
    refine ends2 rfl (rv_tmp (v := .slice _ _ _) rfl) (rv_tmp (v := .int _ _) rfl) ?_
    exact ⟨by (repeat (first | exact Same.refl _ _ | assumption | refine Same.addP ?_ (by (first | exact Nat.le_refl _ | omega | (simp only [next_push, next_set, next_kill, next_addP]; omega))) _ | refine Same.push ?_ (by (first | exact Nat.le_refl _ | omega | (simp only [next_push, next_set, next_kill, next_addP]; omega))) _ | refine Same.set ?_ (by (first | exact Nat.le_refl _ | omega | (simp only [next_push, next_set, next_kill, next_addP]; omega))) _ | refine Same.kill ?_ (by (first | exact Nat.le_refl _ | omega | (simp only [next_push, next_set, next_kill, next_addP]; omega))))), _, by (first | exact Nat.le_refl _ | omega | (simp only [next_push, next_set, next_kill, next_addP]; omega)), by ((repeat (first | exact blk_push_new _ _ | assumption | apply blk_push_old | apply blk_set_same | refine (blk_set_ne (by first | assumption | omega | (simp only [next_push, next_set, next_kill, ne_eq]; omega))).trans ?_ | refine (blk_kill_ne (by first | assumption | omega | (simp only [next_push, next_set, next_kill, ne_eq]; omega))).trans ?_)); (first | done | fail)), fun ρ h => vr_tup2 (vr_sl h (by unfold narrowL; omega) (by unfold narrowL; omega)) (.int _ _)⟩

-- impl.NarrowCells
theorem implNar0_c {r : Room} {H : AHeap} (hw : wfRoom r) (hr : ¬ okRoom r) : ACd Try.prog 25 [.agg (roomC r).toArray] H (.tuple #[.slice none 0 0, .int .i64 1]) (H) := by
  refine ac_gc0 (fun β => VR.plainT β (by first | rfl | simp [plainT, plainV, plain1])) (ac_body Try.func25 rfl Try.ntmps25 rfl ?_)
  refine aw_seq ?_
  refine aw_region ?_
  refine al_opd rfl rfl rfl (ao_boxa (by rfl)) ?_
  refine al_opd rfl rfl rfl (ao_as (v := .slice _ _ _) rfl) ?_
  refine al_opd rfl rfl rfl (ao_as (v := .int _ _) rfl) ?_
  refine al_nilT ?_
  refine aw_seq ?_
  refine aw_seq ?_
  refine aw_region ?_
  refine al_opd rfl rfl rfl (ao_loada Try.isAgg31 Try.sizeOf31 rfl (by ((repeat (first | exact blk_push_new _ _ | assumption | apply blk_push_old | apply blk_set_same | refine (blk_set_ne (by first | assumption | omega | (simp only [next_push, next_set, next_kill, ne_eq]; omega))).trans ?_ | refine (blk_kill_ne (by first | assumption | omega | (simp only [next_push, next_set, next_kill, ne_eq]; omega))).trans ?_)); (first | done | fail))) (by rfl) (by first | rfl | (simp; (first | done | fail)))) ?_
  refine al_opd rfl rfl rfl (ao_calld (implValid_c (r := r) (b := false) hw (no hr)) Try.call52 rfl rfl) ?_
  refine al_opd rfl rfl rfl (ao_not rfl) ?_
  refine al_nilT ?_
  refine aw_cond rfl (fun h1_ => ?_) (fun h1_ => ?_)
  · try simp only [decide_eq_true_eq, decide_eq_false_iff_not, Bool.not_eq_true', Bool.not_eq_false', Bool.and_eq_true, Bool.or_eq_true, Bool.and_eq_false_iff, Bool.or_eq_false_iff, beq_iff_eq, bne_iff_ne, beq_eq_false_iff_ne, bne_eq_false_iff_eq, ne_eq, Decidable.not_not, Bool.decide_eq_true] at h1_
    refine aw_seq ?_
    refine aw_region ?_
    refine al_opd rfl rfl rfl (ao_as (v := .slice _ _ _) rfl) ?_
    refine al_opd rfl rfl rfl (ao_as (v := .int _ _) rfl) ?_
    refine al_nilT ?_
    refine aw_ret ?_
    refine thenA_r ?_
    refine ends2 rfl (rv_tmp (v := .slice _ _ _) rfl) (rv_tmp (v := .int _ _) rfl) ?_
    exact ⟨by first | rfl | (simp [*]; (first | done | fail)), by (repeat (first | exact Same.refl _ _ | assumption | refine Same.push ?_ (by (first | exact Nat.le_refl _ | omega | (simp only [next_push, next_set, next_kill]; omega))) _ | refine Same.set ?_ (by (first | exact Nat.le_refl _ | omega | (simp only [next_push, next_set, next_kill]; omega))) _ | refine Same.kill ?_ (by (first | exact Nat.le_refl _ | omega | (simp only [next_push, next_set, next_kill]; omega)))))⟩
  · try simp only [decide_eq_true_eq, decide_eq_false_iff_not, Bool.not_eq_true', Bool.not_eq_false', Bool.and_eq_true, Bool.or_eq_true, Bool.and_eq_false_iff, Bool.or_eq_false_iff, beq_iff_eq, bne_iff_ne, beq_eq_false_iff_ne, bne_eq_false_iff_eq, ne_eq, Decidable.not_not, Bool.decide_eq_true] at h1_
    first | done | omega | (exfalso; revert h1_; simp; (first | done | omega))

end Go.Proofs.Ytkjmcolnoehjbaa
