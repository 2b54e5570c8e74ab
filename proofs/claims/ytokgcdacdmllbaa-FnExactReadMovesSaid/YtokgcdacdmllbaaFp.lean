/- Contracts of the program's functions over abstract heaps. -/
import Derived.Test.YtokgcdacdmllbaaFile2
import Derived.Test.YtokgcdacdmllbaaBase
import Derived.Test.YtokgcdacdmllbaaRm
import Derived.Test.YtokgcdacdmllbaaVr
import Derived.Test.YtokgcdacdmllbaaFl
import Derived.Test.YtokgcdacdmllbaaFv
import Derived.Test.YtokgcdacdmllbaaFh
namespace Go.Proofs.Ytokgcdacdmllbaa
open Go Go.AW Go.Proofs
set_option linter.unusedVariables false
set_option linter.unusedSimpArgs false
set_option maxRecDepth 100000
set_option maxHeartbeats 2000000

-- (impl.File).can
theorem can_c {l : List Spot} {lb c' : Nat} {r : Room} {k : Int} {b : Bool} {H : AHeap} (hk0 : H.blk lb = some (.cells (fl spot l) 2)) (hcc' : l.length ≤ c') (hn : l.length ≤ 4194304) (hw : wfRoom r) (hsp : wfSpots l) (h1 : 1 ≤ l.length) (hk : 0 ≤ k ∧ k ≤ 5) (hb : b = true ↔ canM r l k) : ACd Try.prog 84 [.slice (some ⟨lb, 0, none⟩) l.length c', .agg (roomC r).toArray, .int .i64 k] H (.bool b) (H) := by
  have hh0 : Sl H spot 2 (.slice (some ⟨lb, 0, none⟩) l.length c') l := Sl.full spot_len hk0 rfl rfl rfl
  have hlt0 := AHeap.lt hk0
  have hh1 : Sl (H.push (.cells (roomC r) 1)) spot 2 (.slice (some ⟨lb, 0, none⟩) l.length c') l := hh0.mono (by (repeat (first | exact Same.refl _ _ | assumption | refine Same.push ?_ (by (first | exact Nat.le_refl _ | omega | (simp only [next_push, next_set, next_kill]; omega))) _ | refine Same.set ?_ (by (first | exact Nat.le_refl _ | omega | (simp only [next_push, next_set, next_kill]; omega))) _ | refine Same.kill ?_ (by (first | exact Nat.le_refl _ | omega | (simp only [next_push, next_set, next_kill]; omega))))))
  refine ac_gc0 (fun β => VR.plainT β (by first | rfl | simp [plainT, plainV, plain1])) (ac_body Try.func84 rfl Try.ntmps84 rfl ?_)
  refine aw_seq ?_
  refine aw_region ?_
  refine al_opd rfl rfl rfl (ao_boxa (by rfl)) ?_
  refine al_opd rfl rfl rfl (ao_as (v := .bool _) rfl) ?_
  refine al_nilT ?_
  refine aw_seq ?_
  refine aw_seq ?_
  refine aw_region ?_
  refine al_opd rfl rfl rfl (ao_mv (v := .int _ _) rfl) ?_
  refine al_opd rfl rfl rfl (ao_geq rfl rfl) ?_
  refine al_nilT ?_
  refine aw_cond rfl (fun h1_ => ?_) (fun h1_ => ?_)
  · try simp only [decide_eq_true_eq, decide_eq_false_iff_not, Bool.not_eq_true', Bool.not_eq_false', Bool.and_eq_true, Bool.or_eq_true, Bool.and_eq_false_iff, Bool.or_eq_false_iff, beq_iff_eq, bne_iff_ne, beq_eq_false_iff_ne, bne_eq_false_iff_eq, ne_eq, Decidable.not_not, Bool.decide_eq_true] at h1_
    refine aw_seq ?_
    refine aw_region ?_
    refine al_opd rfl rfl rfl (ao_as (v := .bool _) rfl) ?_
    refine al_nilT ?_
    refine aw_ret ?_
    refine thenA_r ?_
    refine ends1 rfl (rv_tmp (v := .bool _) rfl) ?_
    exact ⟨bt hb (.inl (by omega)), by (repeat (first | exact Same.refl _ _ | assumption | refine Same.push ?_ (by (first | exact Nat.le_refl _ | omega | (simp only [next_push, next_set, next_kill]; omega))) _ | refine Same.set ?_ (by (first | exact Nat.le_refl _ | omega | (simp only [next_push, next_set, next_kill]; omega))) _ | refine Same.kill ?_ (by (first | exact Nat.le_refl _ | omega | (simp only [next_push, next_set, next_kill]; omega)))))⟩
  · try simp only [decide_eq_true_eq, decide_eq_false_iff_not, Bool.not_eq_true', Bool.not_eq_false', Bool.and_eq_true, Bool.or_eq_true, Bool.and_eq_false_iff, Bool.or_eq_false_iff, beq_iff_eq, bne_iff_ne, beq_eq_false_iff_ne, bne_eq_false_iff_eq, ne_eq, Decidable.not_not, Bool.decide_eq_true] at h1_
    obtain ⟨x, hx⟩ := get_lt (show 0 < l.length by omega)
    obtain ⟨y, hy⟩ := get_lt (show l.length - 1 < l.length by omega)
    have hs : wfSpot x := hsp 0 x hx
    obtain ⟨bc, hbc⟩ := exists_bool (inTake l (nextSpot x k))
    have hci := can_iff (r := r) hx hy (show ¬ 4 ≤ k by omega) hbc
    have hh2 : Sl ((H.push (.cells (roomC r) 1)).push (.cells [.int .i8 (nextSpot x k).x, .int .i8 (nextSpot x k).y] 1)) spot 2 (.slice (some ⟨lb, 0, none⟩) l.length c') l := hh0.mono (by (repeat (first | exact Same.refl _ _ | assumption | refine Same.push ?_ (by (first | exact Nat.le_refl _ | omega | (simp only [next_push, next_set, next_kill]; omega))) _ | refine Same.set ?_ (by (first | exact Nat.le_refl _ | omega | (simp only [next_push, next_set, next_kill]; omega))) _ | refine Same.kill ?_ (by (first | exact Nat.le_refl _ | omega | (simp only [next_push, next_set, next_kill]; omega))))))
    refine aw_skipT ?_
    refine aw_seq ?_
    refine aw_region ?_
    refine al_opd rfl rfl rfl (ao_mv (v := .slice _ _ _) rfl) ?_
    first | refine al_opd rfl rfl rfl (ao_indexAddrS Try.underlying26 Try.sizeOf63 rfl rfl (by first | omega | decide | (simp; omega)) (by first | omega | decide | (simp; omega))) ?_ | refine al_opd rfl rfl rfl (ao_indexV Try.underlying26 Try.sizeOf63 rfl rfl hh1 (by first | omega | decide | (simp; omega)) (by first | omega | decide | (simp; omega))) ?_ | refine al_opd rfl rfl rfl (ao_indexV Try.underlying26 Try.sizeOf63 rfl rfl hh2 (by first | omega | decide | (simp; omega)) (by first | omega | decide | (simp; omega))) ?_
    first | refine al_opd rfl rfl rfl (ao_loada Try.isAgg63 Try.sizeOf63 rfl (by ((repeat (first | exact blk_push_new _ _ | assumption | apply blk_push_old | apply blk_set_same | refine (blk_set_ne (by first | assumption | omega | (simp only [next_push, next_set, next_kill, ne_eq]; omega))).trans ?_ | refine (blk_kill_ne (by first | assumption | omega | (simp only [next_push, next_set, next_kill, ne_eq]; omega))).trans ?_)); (first | done | fail))) (by rfl) (by first | rfl | (simp; (first | done | fail)))) ?_ | refine al_opd rfl rfl rfl (ao_loadsV (A := #[.int _ _, .int _ _]) Try.isAgg63 Try.sizeOf63 hh1 rfl hx rfl (by decide)) ?_ | refine al_opd rfl rfl rfl (ao_loadsV (A := #[.int _ _, .int _ _]) Try.isAgg63 Try.sizeOf63 hh1 rfl hy rfl (by decide)) ?_ | refine al_opd rfl rfl rfl (ao_loadsV (A := #[.int _ _, .int _ _]) Try.isAgg63 Try.sizeOf63 hh2 rfl hx rfl (by decide)) ?_ | refine al_opd rfl rfl rfl (ao_loadsV (A := #[.int _ _, .int _ _]) Try.isAgg63 Try.sizeOf63 hh2 rfl hy rfl (by decide)) ?_
    refine al_opd rfl rfl rfl (ao_mv (v := .int _ _) rfl) ?_
    refine al_opd rfl rfl rfl (ao_calld (implNext_c (s := x) (k := k)) Try.call97 rfl rfl) ?_
    refine al_opd rfl rfl rfl (ao_mv (v := .slice _ _ _) rfl) ?_
    first | refine al_opd rfl rfl rfl (ao_lenS Try.underlying26 (by rfl)) ?_ | refine al_opd rfl rfl rfl (ao_lenN Try.underlying26 (by rfl)) ?_ | refine al_opd rfl rfl rfl (ao_lenV Try.underlying26 rfl hh1) ?_ | refine al_opd rfl rfl rfl (ao_lenV Try.underlying26 rfl hh2) ?_
    refine al_opd rfl rfl rfl ((ao_sub rfl rfl).val (subn l.length (by omega) (by omega))) ?_
    refine al_opd rfl rfl rfl (ao_alloca (zv63) (by rfl)) ?_
    first | refine al_opd rfl rfl rfl ((ao_storeL Try.sizeOf63 (by rfl) (by rfl) (by ((repeat (first | exact blk_push_new _ _ | assumption | apply blk_push_old | apply blk_set_same | refine (blk_set_ne (by first | assumption | omega | (simp only [next_push, next_set, next_kill, ne_eq]; omega))).trans ?_ | refine (blk_kill_ne (by first | assumption | omega | (simp only [next_push, next_set, next_kill, ne_eq]; omega))).trans ?_)); (first | done | fail))) (by first | rfl | (simp; (first | done | fail))) (by first | rfl | (simp; (first | done | fail))) (by first | rfl | (simp; (first | done | fail)))).to (SetR.eq (by (repeat (first | exact SetR.new | exact SetR.same | (apply SetR.old; · exact ⟨_, by ((repeat (first | exact blk_push_new _ _ | assumption | apply blk_push_old | apply blk_set_same | refine (blk_set_ne (by first | assumption | omega | (simp only [next_push, next_set, next_kill, ne_eq]; omega))).trans ?_ | refine (blk_kill_ne (by first | assumption | omega | (simp only [next_push, next_set, next_kill, ne_eq]; omega))).trans ?_)); (first | done | fail))⟩) | exact SetR.base))))) ?_ | refine al_opd rfl rfl rfl ((ao_storeP (ds := [.int _ _, .int _ _]) Try.sizeOf63 (by rfl) (by rfl) (by ((repeat (first | exact blk_push_new _ _ | assumption | apply blk_push_old | apply blk_set_same | refine (blk_set_ne (by first | assumption | omega | (simp only [next_push, next_set, next_kill, ne_eq]; omega))).trans ?_ | refine (blk_kill_ne (by first | assumption | omega | (simp only [next_push, next_set, next_kill, ne_eq]; omega))).trans ?_)); (first | done | fail))) (by first | rfl | (simp; (first | done | fail))) (by first | rfl | (simp; (first | done | fail))) (by first | decide | (simp; (first | done | fail)) | (simp; omega))).to (SetR.eq (by (repeat (first | exact SetR.new | exact SetR.same | (apply SetR.old; · exact ⟨_, by ((repeat (first | exact blk_push_new _ _ | assumption | apply blk_push_old | apply blk_set_same | refine (blk_set_ne (by first | assumption | omega | (simp only [next_push, next_set, next_kill, ne_eq]; omega))).trans ?_ | refine (blk_kill_ne (by first | assumption | omega | (simp only [next_push, next_set, next_kill, ne_eq]; omega))).trans ?_)); (first | done | fail))⟩) | exact SetR.base))))) ?_
    refine al_opd rfl rfl rfl (ao_as (v := .int _ _) rfl) ?_
    refine al_nilT ?_
    refine aw_seq ?_
    refine aw_seq ?_
    refine aw_draw (m := 11) mo (by kernel_rfl) rfl (fun _ _ _ h => h) ?_
    first | refine dw_opd rfl rfl rfl (ao_loada Try.isAgg44 Try.sizeOf44 rfl (by ((repeat (first | exact blk_push_new _ _ | assumption | apply blk_push_old | apply blk_set_same | refine (blk_set_ne (by first | assumption | omega | (simp only [next_push, next_set, next_kill, ne_eq]; omega))).trans ?_ | refine (blk_kill_ne (by first | assumption | omega | (simp only [next_push, next_set, next_kill, ne_eq]; omega))).trans ?_)); (first | done | fail))) (by rfl) (by first | rfl | (simp; (first | done | fail)))) ?_ | refine dw_opd rfl rfl rfl (ao_loadsV (A := #[.int _ _, .int _ _, .int _ _, .int _ _, .int _ _, .int _ _, .int _ _, .int _ _, .int _ _, .int _ _, .int _ _, .int _ _]) Try.isAgg44 Try.sizeOf44 hh1 rfl hx rfl (by decide)) ?_ | refine dw_opd rfl rfl rfl (ao_loadsV (A := #[.int _ _, .int _ _, .int _ _, .int _ _, .int _ _, .int _ _, .int _ _, .int _ _, .int _ _, .int _ _, .int _ _, .int _ _]) Try.isAgg44 Try.sizeOf44 hh1 rfl hy rfl (by decide)) ?_ | refine dw_opd rfl rfl rfl (ao_loadsV (A := #[.int _ _, .int _ _, .int _ _, .int _ _, .int _ _, .int _ _, .int _ _, .int _ _, .int _ _, .int _ _, .int _ _, .int _ _]) Try.isAgg44 Try.sizeOf44 hh2 rfl hx rfl (by decide)) ?_ | refine dw_opd rfl rfl rfl (ao_loadsV (A := #[.int _ _, .int _ _, .int _ _, .int _ _, .int _ _, .int _ _, .int _ _, .int _ _, .int _ _, .int _ _, .int _ _, .int _ _]) Try.isAgg44 Try.sizeOf44 hh2 rfl hy rfl (by decide)) ?_
    first | refine dw_opd rfl rfl rfl (ao_loada Try.isAgg63 Try.sizeOf63 rfl (by ((repeat (first | exact blk_push_new _ _ | assumption | apply blk_push_old | apply blk_set_same | refine (blk_set_ne (by first | assumption | omega | (simp only [next_push, next_set, next_kill, ne_eq]; omega))).trans ?_ | refine (blk_kill_ne (by first | assumption | omega | (simp only [next_push, next_set, next_kill, ne_eq]; omega))).trans ?_)); (first | done | fail))) (by rfl) (by first | rfl | (simp; (first | done | fail)))) ?_ | refine dw_opd rfl rfl rfl (ao_loadsV (A := #[.int _ _, .int _ _]) Try.isAgg63 Try.sizeOf63 hh1 rfl hx rfl (by decide)) ?_ | refine dw_opd rfl rfl rfl (ao_loadsV (A := #[.int _ _, .int _ _]) Try.isAgg63 Try.sizeOf63 hh1 rfl hy rfl (by decide)) ?_ | refine dw_opd rfl rfl rfl (ao_loadsV (A := #[.int _ _, .int _ _]) Try.isAgg63 Try.sizeOf63 hh2 rfl hx rfl (by decide)) ?_ | refine dw_opd rfl rfl rfl (ao_loadsV (A := #[.int _ _, .int _ _]) Try.isAgg63 Try.sizeOf63 hh2 rfl hy rfl (by decide)) ?_
    refine dw_opd rfl rfl rfl (ao_calld (isFree_c (r := r) (s := nextSpot x k) (b := freeB r (nextSpot x k)) hw (wf_next hs _) (freeB_iff _ _)) Try.call93 rfl rfl) ?_
    refine dw_opd rfl rfl rfl (ao_not rfl) ?_
    refine dw_opd rfl rfl rfl (ao_mv (v := .bool _) rfl) ?_
    refine dw_cases (d := 23) rfl (fun h2_ => ?_) (fun h2_ => ?_)
    · try simp only [decide_eq_true_eq, decide_eq_false_iff_not, Bool.not_eq_true', Bool.not_eq_false', Bool.and_eq_true, Bool.or_eq_true, Bool.and_eq_false_iff, Bool.or_eq_false_iff, beq_iff_eq, bne_iff_ne, beq_eq_false_iff_ne, bne_eq_false_iff_eq, ne_eq, Decidable.not_not, Bool.decide_eq_true] at h2_
      refine dw_gno rfl rfl rfl rfl rfl rfl ?_
      refine dw_gno rfl rfl rfl rfl rfl rfl ?_
      refine dw_gno rfl rfl rfl rfl rfl rfl ?_
      refine dw_gno rfl rfl rfl rfl rfl rfl ?_
      refine dw_gno rfl rfl rfl rfl rfl rfl ?_
      refine dw_opd rfl rfl rfl (ao_pickT rfl (v := .bool _) rfl) ?_
      refine dw_end ?_
      refine al_nilT ?_
      refine aw_condT (by rfl) ⟨_, rfl⟩ ?_
      refine aw_seq ?_
      refine aw_region ?_
      refine al_opd rfl rfl rfl (ao_as (v := .bool _) rfl) ?_
      refine al_nilT ?_
      refine aw_ret ?_
      refine thenA_r ?_
      refine ends1 rfl (rv_tmp (v := .bool _) rfl) ?_
      exact ⟨bf hb (fun q => by have := (hci.mp q).1; simp_all), by (repeat (first | exact Same.refl _ _ | assumption | refine Same.push ?_ (by (first | exact Nat.le_refl _ | omega | (simp only [next_push, next_set, next_kill]; omega))) _ | refine Same.set ?_ (by (first | exact Nat.le_refl _ | omega | (simp only [next_push, next_set, next_kill]; omega))) _ | refine Same.kill ?_ (by (first | exact Nat.le_refl _ | omega | (simp only [next_push, next_set, next_kill]; omega)))))⟩
    · try simp only [decide_eq_true_eq, decide_eq_false_iff_not, Bool.not_eq_true', Bool.not_eq_false', Bool.and_eq_true, Bool.or_eq_true, Bool.and_eq_false_iff, Bool.or_eq_false_iff, beq_iff_eq, bne_iff_ne, beq_eq_false_iff_ne, bne_eq_false_iff_eq, ne_eq, Decidable.not_not, Bool.decide_eq_true] at h2_
      refine dw_gyes rfl rfl rfl rfl rfl (ao_mv (v := .slice _ _ _) rfl) ?_
      refine dw_gyes rfl rfl rfl rfl rfl (ao_mv (v := .int _ _) rfl) ?_
      refine dw_gyes rfl rfl rfl rfl rfl (ao_sliceHi Try.underlying26 Try.sizeOf63 (by rfl) (by rfl) (by first | rfl | omega) (by ((repeat (first | exact blk_push_new _ _ | assumption | apply blk_push_old | apply blk_set_same | refine (blk_set_ne (by first | assumption | omega | (simp only [next_push, next_set, next_kill, ne_eq]; omega))).trans ?_ | refine (blk_kill_ne (by first | assumption | omega | (simp only [next_push, next_set, next_kill, ne_eq]; omega))).trans ?_)); (first | done | fail))) (by rfl) (by first | omega | decide | (simp; omega))) ?_
      first | refine dw_gyes rfl rfl rfl rfl rfl (ao_loada Try.isAgg63 Try.sizeOf63 rfl (by ((repeat (first | exact blk_push_new _ _ | assumption | apply blk_push_old | apply blk_set_same | refine (blk_set_ne (by first | assumption | omega | (simp only [next_push, next_set, next_kill, ne_eq]; omega))).trans ?_ | refine (blk_kill_ne (by first | assumption | omega | (simp only [next_push, next_set, next_kill, ne_eq]; omega))).trans ?_)); (first | done | fail))) (by rfl) (by first | rfl | (simp; (first | done | fail)))) ?_ | refine dw_gyes rfl rfl rfl rfl rfl (ao_loadsV (A := #[.int _ _, .int _ _]) Try.isAgg63 Try.sizeOf63 hh1 rfl hx rfl (by decide)) ?_ | refine dw_gyes rfl rfl rfl rfl rfl (ao_loadsV (A := #[.int _ _, .int _ _]) Try.isAgg63 Try.sizeOf63 hh1 rfl hy rfl (by decide)) ?_ | refine dw_gyes rfl rfl rfl rfl rfl (ao_loadsV (A := #[.int _ _, .int _ _]) Try.isAgg63 Try.sizeOf63 hh2 rfl hx rfl (by decide)) ?_ | refine dw_gyes rfl rfl rfl rfl rfl (ao_loadsV (A := #[.int _ _, .int _ _]) Try.isAgg63 Try.sizeOf63 hh2 rfl hy rfl (by decide)) ?_
      refine dw_gyes rfl rfl rfl rfl rfl (ao_calld (containsF_c (l := l.take (l.length - 1)) (x := nextSpot x k) (b := bc) (Sl.part (i := 0) spot_len (by ((repeat (first | exact blk_push_new _ _ | assumption | apply blk_push_old | apply blk_set_same | refine (blk_set_ne (by first | assumption | omega | (simp only [next_push, next_set, next_kill, ne_eq]; omega))).trans ?_ | refine (blk_kill_ne (by first | assumption | omega | (simp only [next_push, next_set, next_kill, ne_eq]; omega))).trans ?_)); (first | done | fail))) rfl rfl (by omega) rfl (by rw [List.length_take]; omega)) (by rw [List.length_take]; omega) hbc) Try.call73 rfl rfl) ?_
      refine dw_opd rfl rfl rfl (ao_pickF rfl (v := .bool _) rfl) ?_
      refine dw_end ?_
      refine al_nilT ?_
      refine aw_cond rfl (fun h3_ => ?_) (fun h3_ => ?_)
      · try simp only [decide_eq_true_eq, decide_eq_false_iff_not, Bool.not_eq_true', Bool.not_eq_false', Bool.and_eq_true, Bool.or_eq_true, Bool.and_eq_false_iff, Bool.or_eq_false_iff, beq_iff_eq, bne_iff_ne, beq_eq_false_iff_ne, bne_eq_false_iff_eq, ne_eq, Decidable.not_not, Bool.decide_eq_true] at h3_
        refine aw_seq ?_
        refine aw_region ?_
        refine al_opd rfl rfl rfl (ao_as (v := .bool _) rfl) ?_
        refine al_nilT ?_
        refine aw_ret ?_
        refine thenA_r ?_
        refine ends1 rfl (rv_tmp (v := .bool _) rfl) ?_
        exact ⟨bf hb (fun q => by have := (hci.mp q).2.1; simp_all), by (repeat (first | exact Same.refl _ _ | assumption | refine Same.push ?_ (by (first | exact Nat.le_refl _ | omega | (simp only [next_push, next_set, next_kill]; omega))) _ | refine Same.set ?_ (by (first | exact Nat.le_refl _ | omega | (simp only [next_push, next_set, next_kill]; omega))) _ | refine Same.kill ?_ (by (first | exact Nat.le_refl _ | omega | (simp only [next_push, next_set, next_kill]; omega)))))⟩
      · try simp only [decide_eq_true_eq, decide_eq_false_iff_not, Bool.not_eq_true', Bool.not_eq_false', Bool.and_eq_true, Bool.or_eq_true, Bool.and_eq_false_iff, Bool.or_eq_false_iff, beq_iff_eq, bne_iff_ne, beq_eq_false_iff_ne, bne_eq_false_iff_eq, ne_eq, Decidable.not_not, Bool.decide_eq_true] at h3_
        refine aw_skipT ?_
        refine aw_seq ?_
        refine aw_draw (m := 12) mo (by kernel_rfl) rfl (fun _ _ _ h => h) ?_
        refine dw_opd rfl rfl rfl (ao_mv (v := .slice _ _ _) rfl) ?_
        first | refine dw_opd rfl rfl rfl (ao_lenS Try.underlying26 (by rfl)) ?_ | refine dw_opd rfl rfl rfl (ao_lenN Try.underlying26 (by rfl)) ?_ | refine dw_opd rfl rfl rfl (ao_lenV Try.underlying26 rfl hh1) ?_ | refine dw_opd rfl rfl rfl (ao_lenV Try.underlying26 rfl hh2) ?_
        refine dw_opd rfl rfl rfl (ao_gtr rfl rfl) ?_
        refine dw_opd rfl rfl rfl (ao_mv (v := .bool _) rfl) ?_
        refine dw_cases (d := 33) rfl (fun h4_ => ?_) (fun h4_ => ?_)
        · try simp only [decide_eq_true_eq, decide_eq_false_iff_not, Bool.not_eq_true', Bool.not_eq_false', Bool.and_eq_true, Bool.or_eq_true, Bool.and_eq_false_iff, Bool.or_eq_false_iff, beq_iff_eq, bne_iff_ne, beq_eq_false_iff_ne, bne_eq_false_iff_eq, ne_eq, Decidable.not_not, Bool.decide_eq_true] at h4_
          refine dw_gno rfl rfl rfl rfl rfl rfl ?_
          refine dw_gno rfl rfl rfl rfl rfl rfl ?_
          refine dw_gno rfl rfl rfl rfl rfl rfl ?_
          refine dw_gno rfl rfl rfl rfl rfl rfl ?_
          refine dw_gno rfl rfl rfl rfl rfl rfl ?_
          refine dw_gno rfl rfl rfl rfl rfl rfl ?_
          refine dw_opd rfl rfl rfl (ao_pickT rfl (v := .bool _) rfl) ?_
          refine dw_opd rfl rfl rfl (ao_as (v := .bool _) rfl) ?_
          refine dw_end ?_
          refine al_nilT ?_
          refine aw_ret ?_
          refine ends1 rfl (rv_tmp (v := .bool _) rfl) ?_
          exact ⟨bt hb (hci.mpr ⟨by simpa using h2_, by simpa using h3_, fun e => by omega⟩), by (repeat (first | exact Same.refl _ _ | assumption | refine Same.push ?_ (by (first | exact Nat.le_refl _ | omega | (simp only [next_push, next_set, next_kill]; omega))) _ | refine Same.set ?_ (by (first | exact Nat.le_refl _ | omega | (simp only [next_push, next_set, next_kill]; omega))) _ | refine Same.kill ?_ (by (first | exact Nat.le_refl _ | omega | (simp only [next_push, next_set, next_kill]; omega)))))⟩
        · try simp only [decide_eq_true_eq, decide_eq_false_iff_not, Bool.not_eq_true', Bool.not_eq_false', Bool.and_eq_true, Bool.or_eq_true, Bool.and_eq_false_iff, Bool.or_eq_false_iff, beq_iff_eq, bne_iff_ne, beq_eq_false_iff_ne, bne_eq_false_iff_eq, ne_eq, Decidable.not_not, Bool.decide_eq_true] at h4_
          first | refine dw_gyes rfl rfl rfl rfl rfl (ao_loada Try.isAgg63 Try.sizeOf63 rfl (by ((repeat (first | exact blk_push_new _ _ | assumption | apply blk_push_old | apply blk_set_same | refine (blk_set_ne (by first | assumption | omega | (simp only [next_push, next_set, next_kill, ne_eq]; omega))).trans ?_ | refine (blk_kill_ne (by first | assumption | omega | (simp only [next_push, next_set, next_kill, ne_eq]; omega))).trans ?_)); (first | done | fail))) (by rfl) (by first | rfl | (simp; (first | done | fail)))) ?_ | refine dw_gyes rfl rfl rfl rfl rfl (ao_loadsV (A := #[.int _ _, .int _ _]) Try.isAgg63 Try.sizeOf63 hh1 rfl hx rfl (by decide)) ?_ | refine dw_gyes rfl rfl rfl rfl rfl (ao_loadsV (A := #[.int _ _, .int _ _]) Try.isAgg63 Try.sizeOf63 hh1 rfl hy rfl (by decide)) ?_ | refine dw_gyes rfl rfl rfl rfl rfl (ao_loadsV (A := #[.int _ _, .int _ _]) Try.isAgg63 Try.sizeOf63 hh2 rfl hx rfl (by decide)) ?_ | refine dw_gyes rfl rfl rfl rfl rfl (ao_loadsV (A := #[.int _ _, .int _ _]) Try.isAgg63 Try.sizeOf63 hh2 rfl hy rfl (by decide)) ?_
          refine dw_gyes rfl rfl rfl rfl rfl (ao_mv (v := .slice _ _ _) rfl) ?_
          refine dw_gyes rfl rfl rfl rfl rfl (ao_mv (v := .int _ _) rfl) ?_
          first | refine dw_gyes rfl rfl rfl rfl rfl (ao_indexAddrS Try.underlying26 Try.sizeOf63 rfl rfl (by first | omega | decide | (simp; omega)) (by first | omega | decide | (simp; omega))) ?_ | refine dw_gyes rfl rfl rfl rfl rfl (ao_indexV Try.underlying26 Try.sizeOf63 rfl rfl hh1 (by first | omega | decide | (simp; omega)) (by first | omega | decide | (simp; omega))) ?_ | refine dw_gyes rfl rfl rfl rfl rfl (ao_indexV Try.underlying26 Try.sizeOf63 rfl rfl hh2 (by first | omega | decide | (simp; omega)) (by first | omega | decide | (simp; omega))) ?_
          first | refine dw_gyes rfl rfl rfl rfl rfl (ao_loada Try.isAgg63 Try.sizeOf63 rfl (by ((repeat (first | exact blk_push_new _ _ | assumption | apply blk_push_old | apply blk_set_same | refine (blk_set_ne (by first | assumption | omega | (simp only [next_push, next_set, next_kill, ne_eq]; omega))).trans ?_ | refine (blk_kill_ne (by first | assumption | omega | (simp only [next_push, next_set, next_kill, ne_eq]; omega))).trans ?_)); (first | done | fail))) (by rfl) (by first | rfl | (simp; (first | done | fail)))) ?_ | refine dw_gyes rfl rfl rfl rfl rfl (ao_loadsV (A := #[.int _ _, .int _ _]) Try.isAgg63 Try.sizeOf63 hh1 rfl hx rfl (by decide)) ?_ | refine dw_gyes rfl rfl rfl rfl rfl (ao_loadsV (A := #[.int _ _, .int _ _]) Try.isAgg63 Try.sizeOf63 hh1 rfl hy rfl (by decide)) ?_ | refine dw_gyes rfl rfl rfl rfl rfl (ao_loadsV (A := #[.int _ _, .int _ _]) Try.isAgg63 Try.sizeOf63 hh2 rfl hx rfl (by decide)) ?_ | refine dw_gyes rfl rfl rfl rfl rfl (ao_loadsV (A := #[.int _ _, .int _ _]) Try.isAgg63 Try.sizeOf63 hh2 rfl hy rfl (by decide)) ?_
          refine dw_gyes rfl rfl rfl rfl rfl ((ao_neV Try.eqGuardType63 rfl rfl rfl rfl (eqS63 _ _ _ _)).val (congrArg (fun b => Value.bool (!b)) (spot_eq (nextSpot x k) y))) ?_
          refine dw_opd rfl rfl rfl (ao_pickF rfl (v := .bool _) rfl) ?_
          refine dw_opd rfl rfl rfl (ao_as (v := .bool _) rfl) ?_
          refine dw_end ?_
          refine al_nilT ?_
          refine aw_ret ?_
          refine ends1 rfl (rv_tmp (v := .bool _) rfl) ?_
          exact ⟨beqv hb (can_last hx hy (by omega) hbc hk.1 hs (by simpa using h2_) (by simpa using h3_) (by omega)), by (repeat (first | exact Same.refl _ _ | assumption | refine Same.push ?_ (by (first | exact Nat.le_refl _ | omega | (simp only [next_push, next_set, next_kill]; omega))) _ | refine Same.set ?_ (by (first | exact Nat.le_refl _ | omega | (simp only [next_push, next_set, next_kill]; omega))) _ | refine Same.kill ?_ (by (first | exact Nat.le_refl _ | omega | (simp only [next_push, next_set, next_kill]; omega)))))⟩

-- spec.l02Can
theorem l02Can_c {l : List Spot} {lb c' : Nat} {r : Room} {k : Int} {pb : Nat} {b : Bool} {H : AHeap} (hp : H.blk pb = some (.cells (roomC r) 1)) (hk0 : H.blk lb = some (.cells (fl spot l) 2)) (hcc' : l.length ≤ c') (hn : l.length ≤ 4194304) (hr : okRoom r) (hw : wfRoom r) (hsp : wfSpots l) (h1 : 1 ≤ l.length) (hk : 0 ≤ k ∧ k ≤ 5) (hb : b = true ↔ canM r l k) : ACd Try.prog 82 [.pointer (some ⟨pb, 0, none⟩), .slice (some ⟨lb, 0, none⟩) l.length c', .int .i64 k] H (.bool b) (H) := by
  have hh0 : Sl H spot 2 (.slice (some ⟨lb, 0, none⟩) l.length c') l := Sl.full spot_len hk0 rfl rfl rfl
  have hlt0 := AHeap.lt hk0
  refine ac_gc0 (fun β => VR.plainT β (by first | rfl | simp [plainT, plainV, plain1])) (ac_body Try.func82 rfl Try.ntmps82 rfl ?_)
  refine aw_seq ?_
  refine aw_region ?_
  refine al_opd rfl rfl rfl (ao_as (v := .bool _) rfl) ?_
  refine al_nilT ?_
  refine aw_seq ?_
  refine aw_seq ?_
  refine aw_region ?_
  refine al_opd rfl rfl rfl (ao_mv (v := .int _ _) rfl) ?_
  refine al_opd rfl rfl rfl (ao_geq rfl rfl) ?_
  refine al_nilT ?_
  refine aw_cond rfl (fun h1_ => ?_) (fun h1_ => ?_)
  · try simp only [decide_eq_true_eq, decide_eq_false_iff_not, Bool.not_eq_true', Bool.not_eq_false', Bool.and_eq_true, Bool.or_eq_true, Bool.and_eq_false_iff, Bool.or_eq_false_iff, beq_iff_eq, bne_iff_ne, beq_eq_false_iff_ne, bne_eq_false_iff_eq, ne_eq, Decidable.not_not, Bool.decide_eq_true] at h1_
    refine aw_seq ?_
    refine aw_region ?_
    refine al_opd rfl rfl rfl (ao_as (v := .bool _) rfl) ?_
    refine al_nilT ?_
    refine aw_ret ?_
    refine thenA_r ?_
    refine ends1 rfl (rv_tmp (v := .bool _) rfl) ?_
    exact ⟨bt hb (.inl (by omega)), by (repeat (first | exact Same.refl _ _ | assumption | refine Same.push ?_ (by (first | exact Nat.le_refl _ | omega | (simp only [next_push, next_set, next_kill]; omega))) _ | refine Same.set ?_ (by (first | exact Nat.le_refl _ | omega | (simp only [next_push, next_set, next_kill]; omega))) _ | refine Same.kill ?_ (by (first | exact Nat.le_refl _ | omega | (simp only [next_push, next_set, next_kill]; omega)))))⟩
  · try simp only [decide_eq_true_eq, decide_eq_false_iff_not, Bool.not_eq_true', Bool.not_eq_false', Bool.and_eq_true, Bool.or_eq_true, Bool.and_eq_false_iff, Bool.or_eq_false_iff, beq_iff_eq, bne_iff_ne, beq_eq_false_iff_ne, bne_eq_false_iff_eq, ne_eq, Decidable.not_not, Bool.decide_eq_true] at h1_
    obtain ⟨x, hx⟩ := get_lt (show 0 < l.length by omega)
    obtain ⟨y, hy⟩ := get_lt (show l.length - 1 < l.length by omega)
    have hs : wfSpot x := hsp 0 x hx
    obtain ⟨bc, hbc⟩ := exists_bool (inTake l (nextSpot x k))
    have hci := can_iff (r := r) hx hy (show ¬ 4 ≤ k by omega) hbc
    have hh2 : Sl (H.push (.cells [.int .i8 (nextSpot x k).x, .int .i8 (nextSpot x k).y] 1)) spot 2 (.slice (some ⟨lb, 0, none⟩) l.length c') l := hh0.mono (by (repeat (first | exact Same.refl _ _ | assumption | refine Same.push ?_ (by (first | exact Nat.le_refl _ | omega | (simp only [next_push, next_set, next_kill]; omega))) _ | refine Same.set ?_ (by (first | exact Nat.le_refl _ | omega | (simp only [next_push, next_set, next_kill]; omega))) _ | refine Same.kill ?_ (by (first | exact Nat.le_refl _ | omega | (simp only [next_push, next_set, next_kill]; omega))))))
    refine aw_skipT ?_
    refine aw_seq ?_
    refine aw_region ?_
    refine al_opd rfl rfl rfl (ao_mv (v := .slice _ _ _) rfl) ?_
    first | refine al_opd rfl rfl rfl (ao_indexAddrS Try.underlying26 Try.sizeOf63 rfl rfl (by first | omega | decide | (simp; omega)) (by first | omega | decide | (simp; omega))) ?_ | refine al_opd rfl rfl rfl (ao_indexV Try.underlying26 Try.sizeOf63 rfl rfl hh0 (by first | omega | decide | (simp; omega)) (by first | omega | decide | (simp; omega))) ?_ | refine al_opd rfl rfl rfl (ao_indexV Try.underlying26 Try.sizeOf63 rfl rfl hh2 (by first | omega | decide | (simp; omega)) (by first | omega | decide | (simp; omega))) ?_
    first | refine al_opd rfl rfl rfl (ao_loada Try.isAgg63 Try.sizeOf63 rfl (by ((repeat (first | exact blk_push_new _ _ | assumption | apply blk_push_old | apply blk_set_same | refine (blk_set_ne (by first | assumption | omega | (simp only [next_push, next_set, next_kill, ne_eq]; omega))).trans ?_ | refine (blk_kill_ne (by first | assumption | omega | (simp only [next_push, next_set, next_kill, ne_eq]; omega))).trans ?_)); (first | done | fail))) (by rfl) (by first | rfl | (simp; (first | done | fail)))) ?_ | refine al_opd rfl rfl rfl (ao_loadsV (A := #[.int _ _, .int _ _]) Try.isAgg63 Try.sizeOf63 hh0 rfl hx rfl (by decide)) ?_ | refine al_opd rfl rfl rfl (ao_loadsV (A := #[.int _ _, .int _ _]) Try.isAgg63 Try.sizeOf63 hh0 rfl hy rfl (by decide)) ?_ | refine al_opd rfl rfl rfl (ao_loadsV (A := #[.int _ _, .int _ _]) Try.isAgg63 Try.sizeOf63 hh2 rfl hx rfl (by decide)) ?_ | refine al_opd rfl rfl rfl (ao_loadsV (A := #[.int _ _, .int _ _]) Try.isAgg63 Try.sizeOf63 hh2 rfl hy rfl (by decide)) ?_
    refine al_opd rfl rfl rfl (ao_mv (v := .int _ _) rfl) ?_
    refine al_opd rfl rfl rfl (ao_calld (l01Next_c (s := x) (k := k)) Try.call98 rfl rfl) ?_
    refine al_opd rfl rfl rfl (ao_alloca (zv63) (by rfl)) ?_
    first | refine al_opd rfl rfl rfl ((ao_storeL Try.sizeOf63 (by rfl) (by rfl) (by ((repeat (first | exact blk_push_new _ _ | assumption | apply blk_push_old | apply blk_set_same | refine (blk_set_ne (by first | assumption | omega | (simp only [next_push, next_set, next_kill, ne_eq]; omega))).trans ?_ | refine (blk_kill_ne (by first | assumption | omega | (simp only [next_push, next_set, next_kill, ne_eq]; omega))).trans ?_)); (first | done | fail))) (by first | rfl | (simp; (first | done | fail))) (by first | rfl | (simp; (first | done | fail))) (by first | rfl | (simp; (first | done | fail)))).to (SetR.eq (by (repeat (first | exact SetR.new | exact SetR.same | (apply SetR.old; · exact ⟨_, by ((repeat (first | exact blk_push_new _ _ | assumption | apply blk_push_old | apply blk_set_same | refine (blk_set_ne (by first | assumption | omega | (simp only [next_push, next_set, next_kill, ne_eq]; omega))).trans ?_ | refine (blk_kill_ne (by first | assumption | omega | (simp only [next_push, next_set, next_kill, ne_eq]; omega))).trans ?_)); (first | done | fail))⟩) | exact SetR.base))))) ?_ | refine al_opd rfl rfl rfl ((ao_storeP (ds := [.int _ _, .int _ _]) Try.sizeOf63 (by rfl) (by rfl) (by ((repeat (first | exact blk_push_new _ _ | assumption | apply blk_push_old | apply blk_set_same | refine (blk_set_ne (by first | assumption | omega | (simp only [next_push, next_set, next_kill, ne_eq]; omega))).trans ?_ | refine (blk_kill_ne (by first | assumption | omega | (simp only [next_push, next_set, next_kill, ne_eq]; omega))).trans ?_)); (first | done | fail))) (by first | rfl | (simp; (first | done | fail))) (by first | rfl | (simp; (first | done | fail))) (by first | decide | (simp; (first | done | fail)) | (simp; omega))).to (SetR.eq (by (repeat (first | exact SetR.new | exact SetR.same | (apply SetR.old; · exact ⟨_, by ((repeat (first | exact blk_push_new _ _ | assumption | apply blk_push_old | apply blk_set_same | refine (blk_set_ne (by first | assumption | omega | (simp only [next_push, next_set, next_kill, ne_eq]; omega))).trans ?_ | refine (blk_kill_ne (by first | assumption | omega | (simp only [next_push, next_set, next_kill, ne_eq]; omega))).trans ?_)); (first | done | fail))⟩) | exact SetR.base))))) ?_
    refine al_nilT ?_
    refine aw_seq ?_
    refine aw_region ?_
    refine al_opd rfl rfl rfl (ao_mv (v := .slice _ _ _) rfl) ?_
    first | refine al_opd rfl rfl rfl (ao_lenS Try.underlying26 (by rfl)) ?_ | refine al_opd rfl rfl rfl (ao_lenN Try.underlying26 (by rfl)) ?_ | refine al_opd rfl rfl rfl (ao_lenV Try.underlying26 rfl hh0) ?_ | refine al_opd rfl rfl rfl (ao_lenV Try.underlying26 rfl hh2) ?_
    refine al_opd rfl rfl rfl ((ao_sub rfl rfl).val (subn l.length (by omega) (by omega))) ?_
    refine al_opd rfl rfl rfl (ao_as (v := .int _ _) rfl) ?_
    refine al_nilT ?_
    refine aw_seq ?_
    refine aw_seq ?_
    refine aw_draw (m := 11) mo (by kernel_rfl) rfl (fun _ _ _ h => h) ?_
    refine dw_opd rfl rfl rfl (ao_mv (v := .pointer _) rfl) ?_
    first | refine dw_opd rfl rfl rfl (ao_loada Try.isAgg63 Try.sizeOf63 rfl (by ((repeat (first | exact blk_push_new _ _ | assumption | apply blk_push_old | apply blk_set_same | refine (blk_set_ne (by first | assumption | omega | (simp only [next_push, next_set, next_kill, ne_eq]; omega))).trans ?_ | refine (blk_kill_ne (by first | assumption | omega | (simp only [next_push, next_set, next_kill, ne_eq]; omega))).trans ?_)); (first | done | fail))) (by rfl) (by first | rfl | (simp; (first | done | fail)))) ?_ | refine dw_opd rfl rfl rfl (ao_loadsV (A := #[.int _ _, .int _ _]) Try.isAgg63 Try.sizeOf63 hh0 rfl hx rfl (by decide)) ?_ | refine dw_opd rfl rfl rfl (ao_loadsV (A := #[.int _ _, .int _ _]) Try.isAgg63 Try.sizeOf63 hh0 rfl hy rfl (by decide)) ?_ | refine dw_opd rfl rfl rfl (ao_loadsV (A := #[.int _ _, .int _ _]) Try.isAgg63 Try.sizeOf63 hh2 rfl hx rfl (by decide)) ?_ | refine dw_opd rfl rfl rfl (ao_loadsV (A := #[.int _ _, .int _ _]) Try.isAgg63 Try.sizeOf63 hh2 rfl hy rfl (by decide)) ?_
    refine dw_opd rfl rfl rfl (ao_calld (l01Free_c (r := r) (s := nextSpot x k) (b := freeB r (nextSpot x k)) (by ((repeat (first | exact blk_push_new _ _ | assumption | apply blk_push_old | apply blk_set_same | refine (blk_set_ne (by first | assumption | omega | (simp only [next_push, next_set, next_kill, ne_eq]; omega))).trans ?_ | refine (blk_kill_ne (by first | assumption | omega | (simp only [next_push, next_set, next_kill, ne_eq]; omega))).trans ?_)); (first | done | fail))) hr hw (wf_next hs _) (freeB_iff _ _)) Try.call99 rfl rfl) ?_
    refine dw_opd rfl rfl rfl (ao_not rfl) ?_
    refine dw_opd rfl rfl rfl (ao_mv (v := .bool _) rfl) ?_
    refine dw_cases (d := 23) rfl (fun h2_ => ?_) (fun h2_ => ?_)
    · try simp only [decide_eq_true_eq, decide_eq_false_iff_not, Bool.not_eq_true', Bool.not_eq_false', Bool.and_eq_true, Bool.or_eq_true, Bool.and_eq_false_iff, Bool.or_eq_false_iff, beq_iff_eq, bne_iff_ne, beq_eq_false_iff_ne, bne_eq_false_iff_eq, ne_eq, Decidable.not_not, Bool.decide_eq_true] at h2_
      refine dw_gno rfl rfl rfl rfl rfl rfl ?_
      refine dw_gno rfl rfl rfl rfl rfl rfl ?_
      refine dw_gno rfl rfl rfl rfl rfl rfl ?_
      refine dw_gno rfl rfl rfl rfl rfl rfl ?_
      refine dw_gno rfl rfl rfl rfl rfl rfl ?_
      refine dw_opd rfl rfl rfl (ao_pickT rfl (v := .bool _) rfl) ?_
      refine dw_end ?_
      refine al_nilT ?_
      refine aw_condT (by rfl) ⟨_, rfl⟩ ?_
      refine aw_seq ?_
      refine aw_region ?_
      refine al_opd rfl rfl rfl (ao_as (v := .bool _) rfl) ?_
      refine al_nilT ?_
      refine aw_ret ?_
      refine thenA_r ?_
      refine ends1 rfl (rv_tmp (v := .bool _) rfl) ?_
      exact ⟨bf hb (fun q => by have := (hci.mp q).1; simp_all), by (repeat (first | exact Same.refl _ _ | assumption | refine Same.push ?_ (by (first | exact Nat.le_refl _ | omega | (simp only [next_push, next_set, next_kill]; omega))) _ | refine Same.set ?_ (by (first | exact Nat.le_refl _ | omega | (simp only [next_push, next_set, next_kill]; omega))) _ | refine Same.kill ?_ (by (first | exact Nat.le_refl _ | omega | (simp only [next_push, next_set, next_kill]; omega)))))⟩
    · try simp only [decide_eq_true_eq, decide_eq_false_iff_not, Bool.not_eq_true', Bool.not_eq_false', Bool.and_eq_true, Bool.or_eq_true, Bool.and_eq_false_iff, Bool.or_eq_false_iff, beq_iff_eq, bne_iff_ne, beq_eq_false_iff_ne, bne_eq_false_iff_eq, ne_eq, Decidable.not_not, Bool.decide_eq_true] at h2_
      refine dw_gyes rfl rfl rfl rfl rfl (ao_mv (v := .slice _ _ _) rfl) ?_
      refine dw_gyes rfl rfl rfl rfl rfl (ao_mv (v := .int _ _) rfl) ?_
      refine dw_gyes rfl rfl rfl rfl rfl (ao_sliceHi Try.underlying26 Try.sizeOf63 (by rfl) (by rfl) (by first | rfl | omega) (by ((repeat (first | exact blk_push_new _ _ | assumption | apply blk_push_old | apply blk_set_same | refine (blk_set_ne (by first | assumption | omega | (simp only [next_push, next_set, next_kill, ne_eq]; omega))).trans ?_ | refine (blk_kill_ne (by first | assumption | omega | (simp only [next_push, next_set, next_kill, ne_eq]; omega))).trans ?_)); (first | done | fail))) (by rfl) (by first | omega | decide | (simp; omega))) ?_
      first | refine dw_gyes rfl rfl rfl rfl rfl (ao_loada Try.isAgg63 Try.sizeOf63 rfl (by ((repeat (first | exact blk_push_new _ _ | assumption | apply blk_push_old | apply blk_set_same | refine (blk_set_ne (by first | assumption | omega | (simp only [next_push, next_set, next_kill, ne_eq]; omega))).trans ?_ | refine (blk_kill_ne (by first | assumption | omega | (simp only [next_push, next_set, next_kill, ne_eq]; omega))).trans ?_)); (first | done | fail))) (by rfl) (by first | rfl | (simp; (first | done | fail)))) ?_ | refine dw_gyes rfl rfl rfl rfl rfl (ao_loadsV (A := #[.int _ _, .int _ _]) Try.isAgg63 Try.sizeOf63 hh0 rfl hx rfl (by decide)) ?_ | refine dw_gyes rfl rfl rfl rfl rfl (ao_loadsV (A := #[.int _ _, .int _ _]) Try.isAgg63 Try.sizeOf63 hh0 rfl hy rfl (by decide)) ?_ | refine dw_gyes rfl rfl rfl rfl rfl (ao_loadsV (A := #[.int _ _, .int _ _]) Try.isAgg63 Try.sizeOf63 hh2 rfl hx rfl (by decide)) ?_ | refine dw_gyes rfl rfl rfl rfl rfl (ao_loadsV (A := #[.int _ _, .int _ _]) Try.isAgg63 Try.sizeOf63 hh2 rfl hy rfl (by decide)) ?_
      refine dw_gyes rfl rfl rfl rfl rfl (ao_calld (l01Has_c (l := l.take (l.length - 1)) (x := nextSpot x k) (b := bc) (Sl.part (i := 0) spot_len (by ((repeat (first | exact blk_push_new _ _ | assumption | apply blk_push_old | apply blk_set_same | refine (blk_set_ne (by first | assumption | omega | (simp only [next_push, next_set, next_kill, ne_eq]; omega))).trans ?_ | refine (blk_kill_ne (by first | assumption | omega | (simp only [next_push, next_set, next_kill, ne_eq]; omega))).trans ?_)); (first | done | fail))) rfl rfl (by omega) rfl (by rw [List.length_take]; omega)) (by rw [List.length_take]; omega) hbc) Try.call70 rfl rfl) ?_
      refine dw_opd rfl rfl rfl (ao_pickF rfl (v := .bool _) rfl) ?_
      refine dw_end ?_
      refine al_nilT ?_
      refine aw_cond rfl (fun h3_ => ?_) (fun h3_ => ?_)
      · try simp only [decide_eq_true_eq, decide_eq_false_iff_not, Bool.not_eq_true', Bool.not_eq_false', Bool.and_eq_true, Bool.or_eq_true, Bool.and_eq_false_iff, Bool.or_eq_false_iff, beq_iff_eq, bne_iff_ne, beq_eq_false_iff_ne, bne_eq_false_iff_eq, ne_eq, Decidable.not_not, Bool.decide_eq_true] at h3_
        refine aw_seq ?_
        refine aw_region ?_
        refine al_opd rfl rfl rfl (ao_as (v := .bool _) rfl) ?_
        refine al_nilT ?_
        refine aw_ret ?_
        refine thenA_r ?_
        refine ends1 rfl (rv_tmp (v := .bool _) rfl) ?_
        exact ⟨bf hb (fun q => by have := (hci.mp q).2.1; simp_all), by (repeat (first | exact Same.refl _ _ | assumption | refine Same.push ?_ (by (first | exact Nat.le_refl _ | omega | (simp only [next_push, next_set, next_kill]; omega))) _ | refine Same.set ?_ (by (first | exact Nat.le_refl _ | omega | (simp only [next_push, next_set, next_kill]; omega))) _ | refine Same.kill ?_ (by (first | exact Nat.le_refl _ | omega | (simp only [next_push, next_set, next_kill]; omega)))))⟩
      · try simp only [decide_eq_true_eq, decide_eq_false_iff_not, Bool.not_eq_true', Bool.not_eq_false', Bool.and_eq_true, Bool.or_eq_true, Bool.and_eq_false_iff, Bool.or_eq_false_iff, beq_iff_eq, bne_iff_ne, beq_eq_false_iff_ne, bne_eq_false_iff_eq, ne_eq, Decidable.not_not, Bool.decide_eq_true] at h3_
        refine aw_skipT ?_
        refine aw_seq ?_
        refine aw_draw (m := 12) mo (by kernel_rfl) rfl (fun _ _ _ h => h) ?_
        refine dw_opd rfl rfl rfl (ao_mv (v := .slice _ _ _) rfl) ?_
        first | refine dw_opd rfl rfl rfl (ao_lenS Try.underlying26 (by rfl)) ?_ | refine dw_opd rfl rfl rfl (ao_lenN Try.underlying26 (by rfl)) ?_ | refine dw_opd rfl rfl rfl (ao_lenV Try.underlying26 rfl hh0) ?_ | refine dw_opd rfl rfl rfl (ao_lenV Try.underlying26 rfl hh2) ?_
        refine dw_opd rfl rfl rfl (ao_neq rfl rfl) ?_
        refine dw_opd rfl rfl rfl (ao_mv (v := .bool _) rfl) ?_
        refine dw_cases (d := 33) rfl (fun h4_ => ?_) (fun h4_ => ?_)
        · try simp only [decide_eq_true_eq, decide_eq_false_iff_not, Bool.not_eq_true', Bool.not_eq_false', Bool.and_eq_true, Bool.or_eq_true, Bool.and_eq_false_iff, Bool.or_eq_false_iff, beq_iff_eq, bne_iff_ne, beq_eq_false_iff_ne, bne_eq_false_iff_eq, ne_eq, Decidable.not_not, Bool.decide_eq_true] at h4_
          refine dw_gno rfl rfl rfl rfl rfl rfl ?_
          refine dw_gno rfl rfl rfl rfl rfl rfl ?_
          refine dw_gno rfl rfl rfl rfl rfl rfl ?_
          refine dw_gno rfl rfl rfl rfl rfl rfl ?_
          refine dw_gno rfl rfl rfl rfl rfl rfl ?_
          refine dw_gno rfl rfl rfl rfl rfl rfl ?_
          refine dw_opd rfl rfl rfl (ao_pickT rfl (v := .bool _) rfl) ?_
          refine dw_opd rfl rfl rfl (ao_as (v := .bool _) rfl) ?_
          refine dw_end ?_
          refine al_nilT ?_
          refine aw_ret ?_
          refine ends1 rfl (rv_tmp (v := .bool _) rfl) ?_
          exact ⟨bt hb (hci.mpr ⟨by simpa using h2_, by simpa using h3_, fun e => by omega⟩), by (repeat (first | exact Same.refl _ _ | assumption | refine Same.push ?_ (by (first | exact Nat.le_refl _ | omega | (simp only [next_push, next_set, next_kill]; omega))) _ | refine Same.set ?_ (by (first | exact Nat.le_refl _ | omega | (simp only [next_push, next_set, next_kill]; omega))) _ | refine Same.kill ?_ (by (first | exact Nat.le_refl _ | omega | (simp only [next_push, next_set, next_kill]; omega)))))⟩
        · try simp only [decide_eq_true_eq, decide_eq_false_iff_not, Bool.not_eq_true', Bool.not_eq_false', Bool.and_eq_true, Bool.or_eq_true, Bool.and_eq_false_iff, Bool.or_eq_false_iff, beq_iff_eq, bne_iff_ne, beq_eq_false_iff_ne, bne_eq_false_iff_eq, ne_eq, Decidable.not_not, Bool.decide_eq_true] at h4_
          refine dw_gyes rfl rfl rfl rfl rfl (ao_mv (v := .slice _ _ _) rfl) ?_
          refine dw_gyes rfl rfl rfl rfl rfl (ao_mv (v := .int _ _) rfl) ?_
          first | refine dw_gyes rfl rfl rfl rfl rfl (ao_indexAddrS Try.underlying26 Try.sizeOf63 rfl rfl (by first | omega | decide | (simp; omega)) (by first | omega | decide | (simp; omega))) ?_ | refine dw_gyes rfl rfl rfl rfl rfl (ao_indexV Try.underlying26 Try.sizeOf63 rfl rfl hh0 (by first | omega | decide | (simp; omega)) (by first | omega | decide | (simp; omega))) ?_ | refine dw_gyes rfl rfl rfl rfl rfl (ao_indexV Try.underlying26 Try.sizeOf63 rfl rfl hh2 (by first | omega | decide | (simp; omega)) (by first | omega | decide | (simp; omega))) ?_
          first | refine dw_gyes rfl rfl rfl rfl rfl (ao_loada Try.isAgg63 Try.sizeOf63 rfl (by ((repeat (first | exact blk_push_new _ _ | assumption | apply blk_push_old | apply blk_set_same | refine (blk_set_ne (by first | assumption | omega | (simp only [next_push, next_set, next_kill, ne_eq]; omega))).trans ?_ | refine (blk_kill_ne (by first | assumption | omega | (simp only [next_push, next_set, next_kill, ne_eq]; omega))).trans ?_)); (first | done | fail))) (by rfl) (by first | rfl | (simp; (first | done | fail)))) ?_ | refine dw_gyes rfl rfl rfl rfl rfl (ao_loadsV (A := #[.int _ _, .int _ _]) Try.isAgg63 Try.sizeOf63 hh0 rfl hx rfl (by decide)) ?_ | refine dw_gyes rfl rfl rfl rfl rfl (ao_loadsV (A := #[.int _ _, .int _ _]) Try.isAgg63 Try.sizeOf63 hh0 rfl hy rfl (by decide)) ?_ | refine dw_gyes rfl rfl rfl rfl rfl (ao_loadsV (A := #[.int _ _, .int _ _]) Try.isAgg63 Try.sizeOf63 hh2 rfl hx rfl (by decide)) ?_ | refine dw_gyes rfl rfl rfl rfl rfl (ao_loadsV (A := #[.int _ _, .int _ _]) Try.isAgg63 Try.sizeOf63 hh2 rfl hy rfl (by decide)) ?_
          first | refine dw_gyes rfl rfl rfl rfl rfl (ao_loada Try.isAgg63 Try.sizeOf63 rfl (by ((repeat (first | exact blk_push_new _ _ | assumption | apply blk_push_old | apply blk_set_same | refine (blk_set_ne (by first | assumption | omega | (simp only [next_push, next_set, next_kill, ne_eq]; omega))).trans ?_ | refine (blk_kill_ne (by first | assumption | omega | (simp only [next_push, next_set, next_kill, ne_eq]; omega))).trans ?_)); (first | done | fail))) (by rfl) (by first | rfl | (simp; (first | done | fail)))) ?_ | refine dw_gyes rfl rfl rfl rfl rfl (ao_loadsV (A := #[.int _ _, .int _ _]) Try.isAgg63 Try.sizeOf63 hh0 rfl hx rfl (by decide)) ?_ | refine dw_gyes rfl rfl rfl rfl rfl (ao_loadsV (A := #[.int _ _, .int _ _]) Try.isAgg63 Try.sizeOf63 hh0 rfl hy rfl (by decide)) ?_ | refine dw_gyes rfl rfl rfl rfl rfl (ao_loadsV (A := #[.int _ _, .int _ _]) Try.isAgg63 Try.sizeOf63 hh2 rfl hx rfl (by decide)) ?_ | refine dw_gyes rfl rfl rfl rfl rfl (ao_loadsV (A := #[.int _ _, .int _ _]) Try.isAgg63 Try.sizeOf63 hh2 rfl hy rfl (by decide)) ?_
          refine dw_gyes rfl rfl rfl rfl rfl ((ao_neV Try.eqGuardType63 rfl rfl rfl rfl (eqS63 _ _ _ _)).val (congrArg (fun b => Value.bool (!b)) (spot_eq y (nextSpot x k)))) ?_
          refine dw_opd rfl rfl rfl (ao_pickF rfl (v := .bool _) rfl) ?_
          refine dw_opd rfl rfl rfl (ao_as (v := .bool _) rfl) ?_
          refine dw_end ?_
          refine al_nilT ?_
          refine aw_ret ?_
          refine ends1 rfl (rv_tmp (v := .bool _) rfl) ?_
          exact ⟨beqv hb (can_two hx hy (by omega) hbc (by simpa using h2_) (by simpa using h3_) (by omega)), by (repeat (first | exact Same.refl _ _ | assumption | refine Same.push ?_ (by (first | exact Nat.le_refl _ | omega | (simp only [next_push, next_set, next_kill]; omega))) _ | refine Same.set ?_ (by (first | exact Nat.le_refl _ | omega | (simp only [next_push, next_set, next_kill]; omega))) _ | refine Same.kill ?_ (by (first | exact Nat.le_refl _ | omega | (simp only [next_push, next_set, next_kill]; omega)))))⟩

-- impl.isMove
theorem isMove_c {k : Int} {H : AHeap} : ACd Try.prog 63 [.int .i64 k] H (.bool (decide (0 ≤ k) && decide (k ≤ 5))) (H) := by
  refine ac_gc0 (fun β => VR.plainT β (by first | rfl | simp [plainT, plainV, plain1])) (ac_body Try.func63 rfl Try.ntmps63 rfl ?_)
  refine aw_seq ?_
  refine aw_region ?_
  refine al_opd rfl rfl rfl (ao_as (v := .bool _) rfl) ?_
  refine al_nilT ?_
  refine aw_seq ?_
  refine aw_region ?_
  refine al_opd rfl rfl rfl (ao_mv (v := .int _ _) rfl) ?_
  refine al_opd rfl rfl rfl (ao_calld (within_c) Try.call77 rfl rfl) ?_
  refine al_opd rfl rfl rfl (ao_as (v := .bool _) rfl) ?_
  refine al_nilT ?_
  refine aw_ret ?_
  refine ends1 rfl (rv_tmp (v := .bool _) rfl) ?_
  exact ⟨by first | rfl | (simp [*]; (first | done | fail)), by (repeat (first | exact Same.refl _ _ | assumption | refine Same.push ?_ (by (first | exact Nat.le_refl _ | omega | (simp only [next_push, next_set, next_kill]; omega))) _ | refine Same.set ?_ (by (first | exact Nat.le_refl _ | omega | (simp only [next_push, next_set, next_kill]; omega))) _ | refine Same.kill ?_ (by (first | exact Nat.le_refl _ | omega | (simp only [next_push, next_set, next_kill]; omega)))))⟩

-- spec.l02Move
theorem l02Move_c {k : Int} {H : AHeap} : ACd Try.prog 87 [.int .i64 k] H (.bool (decide (0 ≤ k) && decide (k ≤ 5))) (H) := by
  refine ac_gc0 (fun β => VR.plainT β (by first | rfl | simp [plainT, plainV, plain1])) (ac_body Try.func87 rfl Try.ntmps87 rfl ?_)
  refine aw_seq ?_
  refine aw_region ?_
  refine al_opd rfl rfl rfl (ao_as (v := .bool _) rfl) ?_
  refine al_nilT ?_
  refine aw_seq ?_
  refine aw_region ?_
  refine al_opd rfl rfl rfl (ao_mv (v := .int _ _) rfl) ?_
  refine al_opd rfl rfl rfl (ao_calld (l00In_c) Try.call76 rfl rfl) ?_
  refine al_opd rfl rfl rfl (ao_as (v := .bool _) rfl) ?_
  refine al_nilT ?_
  refine aw_ret ?_
  refine ends1 rfl (rv_tmp (v := .bool _) rfl) ?_
  exact ⟨by first | rfl | (simp [*]; (first | done | fail)), by (repeat (first | exact Same.refl _ _ | assumption | refine Same.push ?_ (by (first | exact Nat.le_refl _ | omega | (simp only [next_push, next_set, next_kill]; omega))) _ | refine Same.set ?_ (by (first | exact Nat.le_refl _ | omega | (simp only [next_push, next_set, next_kill]; omega))) _ | refine Same.kill ?_ (by (first | exact Nat.le_refl _ | omega | (simp only [next_push, next_set, next_kill]; omega)))))⟩

-- impl.unless
theorem unless_c {b : Bool} {c : Int} {H : AHeap} : ACd Try.prog 100 [.bool b, .int .i64 c] H (.int .i64 (if b = true then 0 else c)) (H) := by
  refine ac_gc0 (fun β => VR.plainT β (by first | rfl | simp [plainT, plainV, plain1])) (ac_body Try.func100 rfl Try.ntmps100 rfl ?_)
  refine aw_seq ?_
  refine aw_region ?_
  refine al_opd rfl rfl rfl (ao_as (v := .int _ _) rfl) ?_
  refine al_nilT ?_
  refine aw_seq ?_
  refine aw_seq ?_
  refine aw_region ?_
  refine al_opd rfl rfl rfl (ao_mv (v := .bool _) rfl) ?_
  refine al_nilT ?_
  refine aw_cond rfl (fun h1_ => ?_) (fun h1_ => ?_)
  · try simp only [decide_eq_true_eq, decide_eq_false_iff_not, Bool.not_eq_true', Bool.not_eq_false', Bool.and_eq_true, Bool.or_eq_true, Bool.and_eq_false_iff, Bool.or_eq_false_iff, beq_iff_eq, bne_iff_ne, beq_eq_false_iff_ne, bne_eq_false_iff_eq, ne_eq, Decidable.not_not, Bool.decide_eq_true] at h1_
    refine aw_seq ?_
    refine aw_region ?_
    refine al_opd rfl rfl rfl (ao_as (v := .int _ _) rfl) ?_
    refine al_nilT ?_
    refine aw_ret ?_
    refine thenA_r ?_
    refine ends1 rfl (rv_tmp (v := .int _ _) rfl) ?_
    exact ⟨by subst h1_; rfl, by (repeat (first | exact Same.refl _ _ | assumption | refine Same.push ?_ (by (first | exact Nat.le_refl _ | omega | (simp only [next_push, next_set, next_kill]; omega))) _ | refine Same.set ?_ (by (first | exact Nat.le_refl _ | omega | (simp only [next_push, next_set, next_kill]; omega))) _ | refine Same.kill ?_ (by (first | exact Nat.le_refl _ | omega | (simp only [next_push, next_set, next_kill]; omega)))))⟩
  · try simp only [decide_eq_true_eq, decide_eq_false_iff_not, Bool.not_eq_true', Bool.not_eq_false', Bool.and_eq_true, Bool.or_eq_true, Bool.and_eq_false_iff, Bool.or_eq_false_iff, beq_iff_eq, bne_iff_ne, beq_eq_false_iff_ne, bne_eq_false_iff_eq, ne_eq, Decidable.not_not, Bool.decide_eq_true] at h1_
    refine aw_skipT ?_
    refine aw_seq ?_
    refine aw_region ?_
    refine al_opd rfl rfl rfl (ao_mv (v := .int _ _) rfl) ?_
    refine al_opd rfl rfl rfl (ao_as (v := .int _ _) rfl) ?_
    refine al_nilT ?_
    refine aw_ret ?_
    refine ends1 rfl (rv_tmp (v := .int _ _) rfl) ?_
    exact ⟨by subst h1_; rfl, by (repeat (first | exact Same.refl _ _ | assumption | refine Same.push ?_ (by (first | exact Nat.le_refl _ | omega | (simp only [next_push, next_set, next_kill]; omega))) _ | refine Same.set ?_ (by (first | exact Nat.le_refl _ | omega | (simp only [next_push, next_set, next_kill]; omega))) _ | refine Same.kill ?_ (by (first | exact Nat.le_refl _ | omega | (simp only [next_push, next_set, next_kill]; omega)))))⟩

-- impl.moveCode
theorem moveCode1_c {l : List Spot} {lb c' : Nat} {r : Room} {k : Int} {H : AHeap} (hk0 : H.blk lb = some (.cells (fl spot l) 2)) (hcc' : l.length ≤ c') (hn : l.length ≤ 4194304) (hw : wfRoom r) (hsp : wfSpots l) (hv : okFile r l) (hk : 0 ≤ k ∧ k ≤ 5) : ACd Try.prog 83 [.agg (roomC r).toArray, .slice (some ⟨lb, 0, none⟩) l.length c', .int .i64 k] H (.int .i64 0) (H) := by
  have hh0 : Sl H spot 2 (.slice (some ⟨lb, 0, none⟩) l.length c') l := Sl.full spot_len hk0 rfl rfl rfl
  have hlt0 := AHeap.lt hk0
  refine ac_gc0 (fun β => VR.plainT β (by first | rfl | simp [plainT, plainV, plain1])) (ac_body Try.func83 rfl Try.ntmps83 rfl ?_)
  refine aw_seq ?_
  refine aw_region ?_
  refine al_opd rfl rfl rfl (ao_boxa (by rfl)) ?_
  refine al_opd rfl rfl rfl (ao_as (v := .int _ _) rfl) ?_
  refine al_nilT ?_
  refine aw_seq ?_
  refine aw_seq ?_
  refine aw_region ?_
  refine al_opd rfl rfl rfl (ao_loada Try.isAgg44 Try.sizeOf44 rfl (by ((repeat (first | exact blk_push_new _ _ | assumption | apply blk_push_old | apply blk_set_same | refine (blk_set_ne (by first | assumption | omega | (simp only [next_push, next_set, next_kill, ne_eq]; omega))).trans ?_ | refine (blk_kill_ne (by first | assumption | omega | (simp only [next_push, next_set, next_kill, ne_eq]; omega))).trans ?_)); (first | done | fail))) (by rfl) (by first | rfl | (simp; (first | done | fail)))) ?_
  refine al_opd rfl rfl rfl (ao_mv (v := .slice _ _ _) rfl) ?_
  refine al_opd rfl rfl rfl (ao_calld (implValidFile_c (l := l) (lb := lb) (c' := c') (r := r) (b := true) (by ((repeat (first | exact blk_push_new _ _ | assumption | apply blk_push_old | apply blk_set_same | refine (blk_set_ne (by first | assumption | omega | (simp only [next_push, next_set, next_kill, ne_eq]; omega))).trans ?_ | refine (blk_kill_ne (by first | assumption | omega | (simp only [next_push, next_set, next_kill, ne_eq]; omega))).trans ?_)); (first | done | fail))) hcc' hn hw hsp (yes hv)) Try.call32 rfl rfl) ?_
  refine al_opd rfl rfl rfl (ao_not rfl) ?_
  refine al_nilT ?_
  refine aw_cond rfl (fun h1_ => ?_) (fun h1_ => ?_)
  · try simp only [decide_eq_true_eq, decide_eq_false_iff_not, Bool.not_eq_true', Bool.not_eq_false', Bool.and_eq_true, Bool.or_eq_true, Bool.and_eq_false_iff, Bool.or_eq_false_iff, beq_iff_eq, bne_iff_ne, beq_eq_false_iff_ne, bne_eq_false_iff_eq, ne_eq, Decidable.not_not, Bool.decide_eq_true] at h1_
    first | done | omega | (exfalso; revert h1_; simp; (first | done | omega))
  · try simp only [decide_eq_true_eq, decide_eq_false_iff_not, Bool.not_eq_true', Bool.not_eq_false', Bool.and_eq_true, Bool.or_eq_true, Bool.and_eq_false_iff, Bool.or_eq_false_iff, beq_iff_eq, bne_iff_ne, beq_eq_false_iff_ne, bne_eq_false_iff_eq, ne_eq, Decidable.not_not, Bool.decide_eq_true] at h1_
    refine aw_skipT ?_
    refine aw_seq ?_
    refine aw_region ?_
    refine al_opd rfl rfl rfl (ao_mv (v := .int _ _) rfl) ?_
    refine al_opd rfl rfl rfl (ao_calld (isMove_c) Try.call63 rfl rfl) ?_
    refine al_opd rfl rfl rfl (ao_calld (unless_c (b := (decide (0 ≤ k) && decide (k ≤ 5))) (c := 2)) Try.call100 rfl rfl) ?_
    refine al_opd rfl rfl rfl (ao_as (v := .int _ _) rfl) ?_
    refine al_nilT ?_
    refine aw_ret ?_
    refine ends1 rfl (rv_tmp (v := .int _ _) rfl) ?_
    exact ⟨congrArg (Value.int .i64) (codeC hk), by (repeat (first | exact Same.refl _ _ | assumption | refine Same.push ?_ (by (first | exact Nat.le_refl _ | omega | (simp only [next_push, next_set, next_kill]; omega))) _ | refine Same.set ?_ (by (first | exact Nat.le_refl _ | omega | (simp only [next_push, next_set, next_kill]; omega))) _ | refine Same.kill ?_ (by (first | exact Nat.le_refl _ | omega | (simp only [next_push, next_set, next_kill]; omega)))))⟩

-- impl.moveCode
theorem moveCode2_c {l : List Spot} {lb c' : Nat} {r : Room} {k : Int} {H : AHeap} (hk0 : H.blk lb = some (.cells (fl spot l) 2)) (hcc' : l.length ≤ c') (hn : l.length ≤ 4194304) (hw : wfRoom r) (hsp : wfSpots l) (hv : okFile r l) (hk : ¬ (0 ≤ k ∧ k ≤ 5)) : ACd Try.prog 83 [.agg (roomC r).toArray, .slice (some ⟨lb, 0, none⟩) l.length c', .int .i64 k] H (.int .i64 2) (H) := by
  have hh0 : Sl H spot 2 (.slice (some ⟨lb, 0, none⟩) l.length c') l := Sl.full spot_len hk0 rfl rfl rfl
  have hlt0 := AHeap.lt hk0
  refine ac_gc0 (fun β => VR.plainT β (by first | rfl | simp [plainT, plainV, plain1])) (ac_body Try.func83 rfl Try.ntmps83 rfl ?_)
  refine aw_seq ?_
  refine aw_region ?_
  refine al_opd rfl rfl rfl (ao_boxa (by rfl)) ?_
  refine al_opd rfl rfl rfl (ao_as (v := .int _ _) rfl) ?_
  refine al_nilT ?_
  refine aw_seq ?_
  refine aw_seq ?_
  refine aw_region ?_
  refine al_opd rfl rfl rfl (ao_loada Try.isAgg44 Try.sizeOf44 rfl (by ((repeat (first | exact blk_push_new _ _ | assumption | apply blk_push_old | apply blk_set_same | refine (blk_set_ne (by first | assumption | omega | (simp only [next_push, next_set, next_kill, ne_eq]; omega))).trans ?_ | refine (blk_kill_ne (by first | assumption | omega | (simp only [next_push, next_set, next_kill, ne_eq]; omega))).trans ?_)); (first | done | fail))) (by rfl) (by first | rfl | (simp; (first | done | fail)))) ?_
  refine al_opd rfl rfl rfl (ao_mv (v := .slice _ _ _) rfl) ?_
  refine al_opd rfl rfl rfl (ao_calld (implValidFile_c (l := l) (lb := lb) (c' := c') (r := r) (b := true) (by ((repeat (first | exact blk_push_new _ _ | assumption | apply blk_push_old | apply blk_set_same | refine (blk_set_ne (by first | assumption | omega | (simp only [next_push, next_set, next_kill, ne_eq]; omega))).trans ?_ | refine (blk_kill_ne (by first | assumption | omega | (simp only [next_push, next_set, next_kill, ne_eq]; omega))).trans ?_)); (first | done | fail))) hcc' hn hw hsp (yes hv)) Try.call32 rfl rfl) ?_
  refine al_opd rfl rfl rfl (ao_not rfl) ?_
  refine al_nilT ?_
  refine aw_cond rfl (fun h1_ => ?_) (fun h1_ => ?_)
  · try simp only [decide_eq_true_eq, decide_eq_false_iff_not, Bool.not_eq_true', Bool.not_eq_false', Bool.and_eq_true, Bool.or_eq_true, Bool.and_eq_false_iff, Bool.or_eq_false_iff, beq_iff_eq, bne_iff_ne, beq_eq_false_iff_ne, bne_eq_false_iff_eq, ne_eq, Decidable.not_not, Bool.decide_eq_true] at h1_
    first | done | omega | (exfalso; revert h1_; simp; (first | done | omega))
  · try simp only [decide_eq_true_eq, decide_eq_false_iff_not, Bool.not_eq_true', Bool.not_eq_false', Bool.and_eq_true, Bool.or_eq_true, Bool.and_eq_false_iff, Bool.or_eq_false_iff, beq_iff_eq, bne_iff_ne, beq_eq_false_iff_ne, bne_eq_false_iff_eq, ne_eq, Decidable.not_not, Bool.decide_eq_true] at h1_
    refine aw_skipT ?_
    refine aw_seq ?_
    refine aw_region ?_
    refine al_opd rfl rfl rfl (ao_mv (v := .int _ _) rfl) ?_
    refine al_opd rfl rfl rfl (ao_calld (isMove_c) Try.call63 rfl rfl) ?_
    refine al_opd rfl rfl rfl (ao_calld (unless_c (b := (decide (0 ≤ k) && decide (k ≤ 5))) (c := 2)) Try.call100 rfl rfl) ?_
    refine al_opd rfl rfl rfl (ao_as (v := .int _ _) rfl) ?_
    refine al_nilT ?_
    refine aw_ret ?_
    refine ends1 rfl (rv_tmp (v := .int _ _) rfl) ?_
    exact ⟨congrArg (Value.int .i64) (codeD hk), by (repeat (first | exact Same.refl _ _ | assumption | refine Same.push ?_ (by (first | exact Nat.le_refl _ | omega | (simp only [next_push, next_set, next_kill]; omega))) _ | refine Same.set ?_ (by (first | exact Nat.le_refl _ | omega | (simp only [next_push, next_set, next_kill]; omega))) _ | refine Same.kill ?_ (by (first | exact Nat.le_refl _ | omega | (simp only [next_push, next_set, next_kill]; omega)))))⟩

-- impl.moveCode
theorem moveCode0_c {l : List Spot} {lb c' : Nat} {r : Room} {k : Int} {H : AHeap} (hk0 : H.blk lb = some (.cells (fl spot l) 2)) (hcc' : l.length ≤ c') (hn : l.length ≤ 4194304) (hw : wfRoom r) (hsp : wfSpots l) (hv : ¬ okFile r l) : ACd Try.prog 83 [.agg (roomC r).toArray, .slice (some ⟨lb, 0, none⟩) l.length c', .int .i64 k] H (.int .i64 1) (H) := by
  have hh0 : Sl H spot 2 (.slice (some ⟨lb, 0, none⟩) l.length c') l := Sl.full spot_len hk0 rfl rfl rfl
  have hlt0 := AHeap.lt hk0
  refine ac_gc0 (fun β => VR.plainT β (by first | rfl | simp [plainT, plainV, plain1])) (ac_body Try.func83 rfl Try.ntmps83 rfl ?_)
  refine aw_seq ?_
  refine aw_region ?_
  refine al_opd rfl rfl rfl (ao_boxa (by rfl)) ?_
  refine al_opd rfl rfl rfl (ao_as (v := .int _ _) rfl) ?_
  refine al_nilT ?_
  refine aw_seq ?_
  refine aw_seq ?_
  refine aw_region ?_
  refine al_opd rfl rfl rfl (ao_loada Try.isAgg44 Try.sizeOf44 rfl (by ((repeat (first | exact blk_push_new _ _ | assumption | apply blk_push_old | apply blk_set_same | refine (blk_set_ne (by first | assumption | omega | (simp only [next_push, next_set, next_kill, ne_eq]; omega))).trans ?_ | refine (blk_kill_ne (by first | assumption | omega | (simp only [next_push, next_set, next_kill, ne_eq]; omega))).trans ?_)); (first | done | fail))) (by rfl) (by first | rfl | (simp; (first | done | fail)))) ?_
  refine al_opd rfl rfl rfl (ao_mv (v := .slice _ _ _) rfl) ?_
  refine al_opd rfl rfl rfl (ao_calld (implValidFile_c (l := l) (lb := lb) (c' := c') (r := r) (b := false) (by ((repeat (first | exact blk_push_new _ _ | assumption | apply blk_push_old | apply blk_set_same | refine (blk_set_ne (by first | assumption | omega | (simp only [next_push, next_set, next_kill, ne_eq]; omega))).trans ?_ | refine (blk_kill_ne (by first | assumption | omega | (simp only [next_push, next_set, next_kill, ne_eq]; omega))).trans ?_)); (first | done | fail))) hcc' hn hw hsp (no hv)) Try.call32 rfl rfl) ?_
  refine al_opd rfl rfl rfl (ao_not rfl) ?_
  refine al_nilT ?_
  refine aw_cond rfl (fun h1_ => ?_) (fun h1_ => ?_)
  · try simp only [decide_eq_true_eq, decide_eq_false_iff_not, Bool.not_eq_true', Bool.not_eq_false', Bool.and_eq_true, Bool.or_eq_true, Bool.and_eq_false_iff, Bool.or_eq_false_iff, beq_iff_eq, bne_iff_ne, beq_eq_false_iff_ne, bne_eq_false_iff_eq, ne_eq, Decidable.not_not, Bool.decide_eq_true] at h1_
    refine aw_seq ?_
    refine aw_region ?_
    refine al_opd rfl rfl rfl (ao_as (v := .int _ _) rfl) ?_
    refine al_nilT ?_
    refine aw_ret ?_
    refine thenA_r ?_
    refine ends1 rfl (rv_tmp (v := .int _ _) rfl) ?_
    exact ⟨by first | rfl | (simp [*]; (first | done | fail)), by (repeat (first | exact Same.refl _ _ | assumption | refine Same.push ?_ (by (first | exact Nat.le_refl _ | omega | (simp only [next_push, next_set, next_kill]; omega))) _ | refine Same.set ?_ (by (first | exact Nat.le_refl _ | omega | (simp only [next_push, next_set, next_kill]; omega))) _ | refine Same.kill ?_ (by (first | exact Nat.le_refl _ | omega | (simp only [next_push, next_set, next_kill]; omega)))))⟩
  · try simp only [decide_eq_true_eq, decide_eq_false_iff_not, Bool.not_eq_true', Bool.not_eq_false', Bool.and_eq_true, Bool.or_eq_true, Bool.and_eq_false_iff, Bool.or_eq_false_iff, beq_iff_eq, bne_iff_ne, beq_eq_false_iff_ne, bne_eq_false_iff_eq, ne_eq, Decidable.not_not, Bool.decide_eq_true] at h1_
    first | done | omega | (exfalso; revert h1_; simp; (first | done | omega))

-- spec.l02Asked
theorem l02Asked1_c {l : List Spot} {lb c' : Nat} {r : Room} {k : Int} {pb : Nat} {H : AHeap} (hp : H.blk pb = some (.cells (roomC r) 1)) (hk0 : H.blk lb = some (.cells (fl spot l) 2)) (hcc' : l.length ≤ c') (hn : l.length ≤ 4194304) (hw : wfRoom r) (hsp : wfSpots l) (hv : okFile r l) (hk : 0 ≤ k ∧ k ≤ 5) : ACd Try.prog 81 [.pointer (some ⟨pb, 0, none⟩), .slice (some ⟨lb, 0, none⟩) l.length c', .int .i64 k] H (.int .i64 0) (H) := by
  have hh0 : Sl H spot 2 (.slice (some ⟨lb, 0, none⟩) l.length c') l := Sl.full spot_len hk0 rfl rfl rfl
  have hlt0 := AHeap.lt hk0
  refine ac_gc0 (fun β => VR.plainT β (by first | rfl | simp [plainT, plainV, plain1])) (ac_body Try.func81 rfl Try.ntmps81 rfl ?_)
  refine aw_seq ?_
  refine aw_region ?_
  refine al_opd rfl rfl rfl (ao_as (v := .int _ _) rfl) ?_
  refine al_nilT ?_
  refine aw_seq ?_
  refine aw_seq ?_
  refine aw_region ?_
  refine al_opd rfl rfl rfl (ao_mv (v := .pointer _) rfl) ?_
  refine al_opd rfl rfl rfl (ao_mv (v := .slice _ _ _) rfl) ?_
  refine al_opd rfl rfl rfl (ao_calld (l02Ok_c (l := l) (lb := lb) (c' := c') (r := r) (b := true) (by ((repeat (first | exact blk_push_new _ _ | assumption | apply blk_push_old | apply blk_set_same | refine (blk_set_ne (by first | assumption | omega | (simp only [next_push, next_set, next_kill, ne_eq]; omega))).trans ?_ | refine (blk_kill_ne (by first | assumption | omega | (simp only [next_push, next_set, next_kill, ne_eq]; omega))).trans ?_)); (first | done | fail))) (by ((repeat (first | exact blk_push_new _ _ | assumption | apply blk_push_old | apply blk_set_same | refine (blk_set_ne (by first | assumption | omega | (simp only [next_push, next_set, next_kill, ne_eq]; omega))).trans ?_ | refine (blk_kill_ne (by first | assumption | omega | (simp only [next_push, next_set, next_kill, ne_eq]; omega))).trans ?_)); (first | done | fail))) hcc' hn hw hsp (yes hv)) Try.call66 rfl rfl) ?_
  refine al_opd rfl rfl rfl (ao_not rfl) ?_
  refine al_nilT ?_
  refine aw_cond rfl (fun h1_ => ?_) (fun h1_ => ?_)
  · try simp only [decide_eq_true_eq, decide_eq_false_iff_not, Bool.not_eq_true', Bool.not_eq_false', Bool.and_eq_true, Bool.or_eq_true, Bool.and_eq_false_iff, Bool.or_eq_false_iff, beq_iff_eq, bne_iff_ne, beq_eq_false_iff_ne, bne_eq_false_iff_eq, ne_eq, Decidable.not_not, Bool.decide_eq_true] at h1_
    first | done | omega | (exfalso; revert h1_; simp; (first | done | omega))
  · try simp only [decide_eq_true_eq, decide_eq_false_iff_not, Bool.not_eq_true', Bool.not_eq_false', Bool.and_eq_true, Bool.or_eq_true, Bool.and_eq_false_iff, Bool.or_eq_false_iff, beq_iff_eq, bne_iff_ne, beq_eq_false_iff_ne, bne_eq_false_iff_eq, ne_eq, Decidable.not_not, Bool.decide_eq_true] at h1_
    refine aw_skipT ?_
    refine aw_seq ?_
    refine aw_seq ?_
    refine aw_region ?_
    refine al_opd rfl rfl rfl (ao_mv (v := .int _ _) rfl) ?_
    refine al_opd rfl rfl rfl (ao_calld (l02Move_c) Try.call87 rfl rfl) ?_
    refine al_opd rfl rfl rfl (ao_not rfl) ?_
    refine al_nilT ?_
    refine aw_cond rfl (fun h2_ => ?_) (fun h2_ => ?_)
    · try simp only [decide_eq_true_eq, decide_eq_false_iff_not, Bool.not_eq_true', Bool.not_eq_false', Bool.and_eq_true, Bool.or_eq_true, Bool.and_eq_false_iff, Bool.or_eq_false_iff, beq_iff_eq, bne_iff_ne, beq_eq_false_iff_ne, bne_eq_false_iff_eq, ne_eq, Decidable.not_not, Bool.decide_eq_true] at h2_
      first | done | omega | (exfalso; revert h2_; simp; (first | done | omega))
    · try simp only [decide_eq_true_eq, decide_eq_false_iff_not, Bool.not_eq_true', Bool.not_eq_false', Bool.and_eq_true, Bool.or_eq_true, Bool.and_eq_false_iff, Bool.or_eq_false_iff, beq_iff_eq, bne_iff_ne, beq_eq_false_iff_ne, bne_eq_false_iff_eq, ne_eq, Decidable.not_not, Bool.decide_eq_true] at h2_
      refine aw_skipT ?_
      refine aw_seq ?_
      refine aw_region ?_
      refine al_opd rfl rfl rfl (ao_as (v := .int _ _) rfl) ?_
      refine al_nilT ?_
      refine aw_ret ?_
      refine ends1 rfl (rv_tmp (v := .int _ _) rfl) ?_
      exact ⟨by first | rfl | (simp [*]; (first | done | fail)), by (repeat (first | exact Same.refl _ _ | assumption | refine Same.push ?_ (by (first | exact Nat.le_refl _ | omega | (simp only [next_push, next_set, next_kill]; omega))) _ | refine Same.set ?_ (by (first | exact Nat.le_refl _ | omega | (simp only [next_push, next_set, next_kill]; omega))) _ | refine Same.kill ?_ (by (first | exact Nat.le_refl _ | omega | (simp only [next_push, next_set, next_kill]; omega)))))⟩

-- spec.l02Asked
theorem l02Asked2_c {l : List Spot} {lb c' : Nat} {r : Room} {k : Int} {pb : Nat} {H : AHeap} (hp : H.blk pb = some (.cells (roomC r) 1)) (hk0 : H.blk lb = some (.cells (fl spot l) 2)) (hcc' : l.length ≤ c') (hn : l.length ≤ 4194304) (hw : wfRoom r) (hsp : wfSpots l) (hv : okFile r l) (hk : ¬ (0 ≤ k ∧ k ≤ 5)) : ACd Try.prog 81 [.pointer (some ⟨pb, 0, none⟩), .slice (some ⟨lb, 0, none⟩) l.length c', .int .i64 k] H (.int .i64 2) (H) := by
  have hh0 : Sl H spot 2 (.slice (some ⟨lb, 0, none⟩) l.length c') l := Sl.full spot_len hk0 rfl rfl rfl
  have hlt0 := AHeap.lt hk0
  refine ac_gc0 (fun β => VR.plainT β (by first | rfl | simp [plainT, plainV, plain1])) (ac_body Try.func81 rfl Try.ntmps81 rfl ?_)
  refine aw_seq ?_
  refine aw_region ?_
  refine al_opd rfl rfl rfl (ao_as (v := .int _ _) rfl) ?_
  refine al_nilT ?_
  refine aw_seq ?_
  refine aw_seq ?_
  refine aw_region ?_
  refine al_opd rfl rfl rfl (ao_mv (v := .pointer _) rfl) ?_
  refine al_opd rfl rfl rfl (ao_mv (v := .slice _ _ _) rfl) ?_
  refine al_opd rfl rfl rfl (ao_calld (l02Ok_c (l := l) (lb := lb) (c' := c') (r := r) (b := true) (by ((repeat (first | exact blk_push_new _ _ | assumption | apply blk_push_old | apply blk_set_same | refine (blk_set_ne (by first | assumption | omega | (simp only [next_push, next_set, next_kill, ne_eq]; omega))).trans ?_ | refine (blk_kill_ne (by first | assumption | omega | (simp only [next_push, next_set, next_kill, ne_eq]; omega))).trans ?_)); (first | done | fail))) (by ((repeat (first | exact blk_push_new _ _ | assumption | apply blk_push_old | apply blk_set_same | refine (blk_set_ne (by first | assumption | omega | (simp only [next_push, next_set, next_kill, ne_eq]; omega))).trans ?_ | refine (blk_kill_ne (by first | assumption | omega | (simp only [next_push, next_set, next_kill, ne_eq]; omega))).trans ?_)); (first | done | fail))) hcc' hn hw hsp (yes hv)) Try.call66 rfl rfl) ?_
  refine al_opd rfl rfl rfl (ao_not rfl) ?_
  refine al_nilT ?_
  refine aw_cond rfl (fun h1_ => ?_) (fun h1_ => ?_)
  · try simp only [decide_eq_true_eq, decide_eq_false_iff_not, Bool.not_eq_true', Bool.not_eq_false', Bool.and_eq_true, Bool.or_eq_true, Bool.and_eq_false_iff, Bool.or_eq_false_iff, beq_iff_eq, bne_iff_ne, beq_eq_false_iff_ne, bne_eq_false_iff_eq, ne_eq, Decidable.not_not, Bool.decide_eq_true] at h1_
    first | done | omega | (exfalso; revert h1_; simp; (first | done | omega))
  · try simp only [decide_eq_true_eq, decide_eq_false_iff_not, Bool.not_eq_true', Bool.not_eq_false', Bool.and_eq_true, Bool.or_eq_true, Bool.and_eq_false_iff, Bool.or_eq_false_iff, beq_iff_eq, bne_iff_ne, beq_eq_false_iff_ne, bne_eq_false_iff_eq, ne_eq, Decidable.not_not, Bool.decide_eq_true] at h1_
    refine aw_skipT ?_
    refine aw_seq ?_
    refine aw_seq ?_
    refine aw_region ?_
    refine al_opd rfl rfl rfl (ao_mv (v := .int _ _) rfl) ?_
    refine al_opd rfl rfl rfl (ao_calld (l02Move_c) Try.call87 rfl rfl) ?_
    refine al_opd rfl rfl rfl (ao_not rfl) ?_
    refine al_nilT ?_
    refine aw_cond rfl (fun h2_ => ?_) (fun h2_ => ?_)
    · try simp only [decide_eq_true_eq, decide_eq_false_iff_not, Bool.not_eq_true', Bool.not_eq_false', Bool.and_eq_true, Bool.or_eq_true, Bool.and_eq_false_iff, Bool.or_eq_false_iff, beq_iff_eq, bne_iff_ne, beq_eq_false_iff_ne, bne_eq_false_iff_eq, ne_eq, Decidable.not_not, Bool.decide_eq_true] at h2_
      refine aw_seq ?_
      refine aw_region ?_
      refine al_opd rfl rfl rfl (ao_as (v := .int _ _) rfl) ?_
      refine al_nilT ?_
      refine aw_ret ?_
      refine thenA_r ?_
      refine ends1 rfl (rv_tmp (v := .int _ _) rfl) ?_
      exact ⟨by first | rfl | (simp [*]; (first | done | fail)), by (repeat (first | exact Same.refl _ _ | assumption | refine Same.push ?_ (by (first | exact Nat.le_refl _ | omega | (simp only [next_push, next_set, next_kill]; omega))) _ | refine Same.set ?_ (by (first | exact Nat.le_refl _ | omega | (simp only [next_push, next_set, next_kill]; omega))) _ | refine Same.kill ?_ (by (first | exact Nat.le_refl _ | omega | (simp only [next_push, next_set, next_kill]; omega)))))⟩
    · try simp only [decide_eq_true_eq, decide_eq_false_iff_not, Bool.not_eq_true', Bool.not_eq_false', Bool.and_eq_true, Bool.or_eq_true, Bool.and_eq_false_iff, Bool.or_eq_false_iff, beq_iff_eq, bne_iff_ne, beq_eq_false_iff_ne, bne_eq_false_iff_eq, ne_eq, Decidable.not_not, Bool.decide_eq_true] at h2_
      first | done | omega | (exfalso; revert h2_; simp; (first | done | omega))

-- spec.l02Asked
theorem l02Asked0_c {l : List Spot} {lb c' : Nat} {r : Room} {k : Int} {pb : Nat} {H : AHeap} (hp : H.blk pb = some (.cells (roomC r) 1)) (hk0 : H.blk lb = some (.cells (fl spot l) 2)) (hcc' : l.length ≤ c') (hn : l.length ≤ 4194304) (hw : wfRoom r) (hsp : wfSpots l) (hv : ¬ okFile r l) : ACd Try.prog 81 [.pointer (some ⟨pb, 0, none⟩), .slice (some ⟨lb, 0, none⟩) l.length c', .int .i64 k] H (.int .i64 1) (H) := by
  have hh0 : Sl H spot 2 (.slice (some ⟨lb, 0, none⟩) l.length c') l := Sl.full spot_len hk0 rfl rfl rfl
  have hlt0 := AHeap.lt hk0
  refine ac_gc0 (fun β => VR.plainT β (by first | rfl | simp [plainT, plainV, plain1])) (ac_body Try.func81 rfl Try.ntmps81 rfl ?_)
  refine aw_seq ?_
  refine aw_region ?_
  refine al_opd rfl rfl rfl (ao_as (v := .int _ _) rfl) ?_
  refine al_nilT ?_
  refine aw_seq ?_
  refine aw_seq ?_
  refine aw_region ?_
  refine al_opd rfl rfl rfl (ao_mv (v := .pointer _) rfl) ?_
  refine al_opd rfl rfl rfl (ao_mv (v := .slice _ _ _) rfl) ?_
  refine al_opd rfl rfl rfl (ao_calld (l02Ok_c (l := l) (lb := lb) (c' := c') (r := r) (b := false) (by ((repeat (first | exact blk_push_new _ _ | assumption | apply blk_push_old | apply blk_set_same | refine (blk_set_ne (by first | assumption | omega | (simp only [next_push, next_set, next_kill, ne_eq]; omega))).trans ?_ | refine (blk_kill_ne (by first | assumption | omega | (simp only [next_push, next_set, next_kill, ne_eq]; omega))).trans ?_)); (first | done | fail))) (by ((repeat (first | exact blk_push_new _ _ | assumption | apply blk_push_old | apply blk_set_same | refine (blk_set_ne (by first | assumption | omega | (simp only [next_push, next_set, next_kill, ne_eq]; omega))).trans ?_ | refine (blk_kill_ne (by first | assumption | omega | (simp only [next_push, next_set, next_kill, ne_eq]; omega))).trans ?_)); (first | done | fail))) hcc' hn hw hsp (no hv)) Try.call66 rfl rfl) ?_
  refine al_opd rfl rfl rfl (ao_not rfl) ?_
  refine al_nilT ?_
  refine aw_cond rfl (fun h1_ => ?_) (fun h1_ => ?_)
  · try simp only [decide_eq_true_eq, decide_eq_false_iff_not, Bool.not_eq_true', Bool.not_eq_false', Bool.and_eq_true, Bool.or_eq_true, Bool.and_eq_false_iff, Bool.or_eq_false_iff, beq_iff_eq, bne_iff_ne, beq_eq_false_iff_ne, bne_eq_false_iff_eq, ne_eq, Decidable.not_not, Bool.decide_eq_true] at h1_
    refine aw_seq ?_
    refine aw_region ?_
    refine al_opd rfl rfl rfl (ao_as (v := .int _ _) rfl) ?_
    refine al_nilT ?_
    refine aw_ret ?_
    refine thenA_r ?_
    refine ends1 rfl (rv_tmp (v := .int _ _) rfl) ?_
    exact ⟨by first | rfl | (simp [*]; (first | done | fail)), by (repeat (first | exact Same.refl _ _ | assumption | refine Same.push ?_ (by (first | exact Nat.le_refl _ | omega | (simp only [next_push, next_set, next_kill]; omega))) _ | refine Same.set ?_ (by (first | exact Nat.le_refl _ | omega | (simp only [next_push, next_set, next_kill]; omega))) _ | refine Same.kill ?_ (by (first | exact Nat.le_refl _ | omega | (simp only [next_push, next_set, next_kill]; omega)))))⟩
  · try simp only [decide_eq_true_eq, decide_eq_false_iff_not, Bool.not_eq_true', Bool.not_eq_false', Bool.and_eq_true, Bool.or_eq_true, Bool.and_eq_false_iff, Bool.or_eq_false_iff, beq_iff_eq, bne_iff_ne, beq_eq_false_iff_ne, bne_eq_false_iff_eq, ne_eq, Decidable.not_not, Bool.decide_eq_true] at h1_
    first | done | omega | (exfalso; revert h1_; simp; (first | done | omega))

-- impl.CanMove
theorem implCan1_c {l : List Spot} {lb c' : Nat} {r : Room} {k : Int} {b : Bool} {H : AHeap} (hk0 : H.blk lb = some (.cells (fl spot l) 2)) (hcc' : l.length ≤ c') (hn : l.length ≤ 4194304) (hw : wfRoom r) (hsp : wfSpots l) (hv : okFile r l) (hk : 0 ≤ k ∧ k ≤ 5) (hb : b = true ↔ canM r l k) : ACd Try.prog 48 [.agg (roomC r).toArray, .slice (some ⟨lb, 0, none⟩) l.length c', .int .i64 k] H (.tuple #[.bool b, .int .i64 0]) (H) := by
  have hh0 : Sl H spot 2 (.slice (some ⟨lb, 0, none⟩) l.length c') l := Sl.full spot_len hk0 rfl rfl rfl
  have hlt0 := AHeap.lt hk0
  refine ac_gc0 (fun β => VR.plainT β (by first | rfl | simp [plainT, plainV, plain1])) (ac_body Try.func48 rfl Try.ntmps48 rfl ?_)
  refine aw_seq ?_
  refine aw_region ?_
  refine al_opd rfl rfl rfl (ao_boxa (by rfl)) ?_
  refine al_opd rfl rfl rfl (ao_as (v := .bool _) rfl) ?_
  refine al_opd rfl rfl rfl (ao_as (v := .int _ _) rfl) ?_
  refine al_nilT ?_
  refine aw_seq ?_
  refine aw_seq ?_
  refine aw_region ?_
  refine al_opd rfl rfl rfl (ao_loada Try.isAgg44 Try.sizeOf44 rfl (by ((repeat (first | exact blk_push_new _ _ | assumption | apply blk_push_old | apply blk_set_same | refine (blk_set_ne (by first | assumption | omega | (simp only [next_push, next_set, next_kill, ne_eq]; omega))).trans ?_ | refine (blk_kill_ne (by first | assumption | omega | (simp only [next_push, next_set, next_kill, ne_eq]; omega))).trans ?_)); (first | done | fail))) (by rfl) (by first | rfl | (simp; (first | done | fail)))) ?_
  refine al_opd rfl rfl rfl (ao_mv (v := .slice _ _ _) rfl) ?_
  refine al_opd rfl rfl rfl (ao_mv (v := .int _ _) rfl) ?_
  refine al_opd rfl rfl rfl (ao_calld (moveCode1_c (l := l) (lb := lb) (c' := c') (r := r) (k := k) (by ((repeat (first | exact blk_push_new _ _ | assumption | apply blk_push_old | apply blk_set_same | refine (blk_set_ne (by first | assumption | omega | (simp only [next_push, next_set, next_kill, ne_eq]; omega))).trans ?_ | refine (blk_kill_ne (by first | assumption | omega | (simp only [next_push, next_set, next_kill, ne_eq]; omega))).trans ?_)); (first | done | fail))) hcc' hn hw hsp hv hk) Try.call83 rfl rfl) ?_
  refine al_opd rfl rfl rfl (ao_as (v := .int _ _) rfl) ?_
  refine al_nilT ?_
  refine aw_seq ?_
  refine aw_region ?_
  refine al_opd rfl rfl rfl (ao_mv (v := .int _ _) rfl) ?_
  refine al_opd rfl rfl rfl (ao_neq rfl rfl) ?_
  refine al_nilT ?_
  refine aw_cond rfl (fun h1_ => ?_) (fun h1_ => ?_)
  · try simp only [decide_eq_true_eq, decide_eq_false_iff_not, Bool.not_eq_true', Bool.not_eq_false', Bool.and_eq_true, Bool.or_eq_true, Bool.and_eq_false_iff, Bool.or_eq_false_iff, beq_iff_eq, bne_iff_ne, beq_eq_false_iff_ne, bne_eq_false_iff_eq, ne_eq, Decidable.not_not, Bool.decide_eq_true] at h1_
    first | done | omega | (exfalso; revert h1_; simp; (first | done | omega))
  · try simp only [decide_eq_true_eq, decide_eq_false_iff_not, Bool.not_eq_true', Bool.not_eq_false', Bool.and_eq_true, Bool.or_eq_true, Bool.and_eq_false_iff, Bool.or_eq_false_iff, beq_iff_eq, bne_iff_ne, beq_eq_false_iff_ne, bne_eq_false_iff_eq, ne_eq, Decidable.not_not, Bool.decide_eq_true] at h1_
    refine aw_skipT ?_
    refine aw_seq ?_
    refine aw_region ?_
    refine al_opd rfl rfl rfl (ao_mv (v := .slice _ _ _) rfl) ?_
    refine al_opd rfl rfl rfl (ao_loada Try.isAgg44 Try.sizeOf44 rfl (by ((repeat (first | exact blk_push_new _ _ | assumption | apply blk_push_old | apply blk_set_same | refine (blk_set_ne (by first | assumption | omega | (simp only [next_push, next_set, next_kill, ne_eq]; omega))).trans ?_ | refine (blk_kill_ne (by first | assumption | omega | (simp only [next_push, next_set, next_kill, ne_eq]; omega))).trans ?_)); (first | done | fail))) (by rfl) (by first | rfl | (simp; (first | done | fail)))) ?_
    refine al_opd rfl rfl rfl (ao_mv (v := .int _ _) rfl) ?_
    refine al_opd rfl rfl rfl (ao_calld (can_c (l := l) (lb := lb) (c' := c') (r := r) (k := k) (b := b) (by ((repeat (first | exact blk_push_new _ _ | assumption | apply blk_push_old | apply blk_set_same | refine (blk_set_ne (by first | assumption | omega | (simp only [next_push, next_set, next_kill, ne_eq]; omega))).trans ?_ | refine (blk_kill_ne (by first | assumption | omega | (simp only [next_push, next_set, next_kill, ne_eq]; omega))).trans ?_)); (first | done | fail))) hcc' hn hw hsp hv.2.1.2.1 hk hb) Try.call84 rfl rfl) ?_
    refine al_opd rfl rfl rfl (ao_as (v := .bool _) rfl) ?_
    refine al_opd rfl rfl rfl (ao_as (v := .int _ _) rfl) ?_
    refine al_nilT ?_
    refine aw_ret ?_
    refine ends2 rfl (rv_tmp (v := .bool _) rfl) (rv_tmp (v := .int _ _) rfl) ?_
    exact ⟨by first | rfl | (simp [*]; (first | done | fail)), by (repeat (first | exact Same.refl _ _ | assumption | refine Same.push ?_ (by (first | exact Nat.le_refl _ | omega | (simp only [next_push, next_set, next_kill]; omega))) _ | refine Same.set ?_ (by (first | exact Nat.le_refl _ | omega | (simp only [next_push, next_set, next_kill]; omega))) _ | refine Same.kill ?_ (by (first | exact Nat.le_refl _ | omega | (simp only [next_push, next_set, next_kill]; omega)))))⟩

-- spec.CanMove
theorem specCan1_c {l : List Spot} {lb c' : Nat} {r : Room} {k : Int} {b : Bool} {H : AHeap} (hk0 : H.blk lb = some (.cells (fl spot l) 2)) (hcc' : l.length ≤ c') (hn : l.length ≤ 4194304) (hw : wfRoom r) (hsp : wfSpots l) (hv : okFile r l) (hk : 0 ≤ k ∧ k ≤ 5) (hb : b = true ↔ canM r l k) : ACd Try.prog 47 [.agg (roomC r).toArray, .slice (some ⟨lb, 0, none⟩) l.length c', .int .i64 k] H (.tuple #[.bool b, .int .i64 0]) (H) := by
  have hh0 : Sl H spot 2 (.slice (some ⟨lb, 0, none⟩) l.length c') l := Sl.full spot_len hk0 rfl rfl rfl
  have hlt0 := AHeap.lt hk0
  refine ac_gc0 (fun β => VR.plainT β (by first | rfl | simp [plainT, plainV, plain1])) (ac_body Try.func47 rfl Try.ntmps47 rfl ?_)
  refine aw_seq ?_
  refine aw_region ?_
  refine al_opd rfl rfl rfl (ao_boxa (by rfl)) ?_
  refine al_opd rfl rfl rfl (ao_as (v := .bool _) rfl) ?_
  refine al_opd rfl rfl rfl (ao_as (v := .int _ _) rfl) ?_
  refine al_nilT ?_
  refine aw_seq ?_
  refine aw_seq ?_
  refine aw_region ?_
  refine al_opd rfl rfl rfl (ao_mv (v := .slice _ _ _) rfl) ?_
  refine al_opd rfl rfl rfl (ao_mv (v := .int _ _) rfl) ?_
  refine al_opd rfl rfl rfl (ao_calld (l02Asked1_c (l := l) (lb := lb) (c' := c') (r := r) (k := k) (by ((repeat (first | exact blk_push_new _ _ | assumption | apply blk_push_old | apply blk_set_same | refine (blk_set_ne (by first | assumption | omega | (simp only [next_push, next_set, next_kill, ne_eq]; omega))).trans ?_ | refine (blk_kill_ne (by first | assumption | omega | (simp only [next_push, next_set, next_kill, ne_eq]; omega))).trans ?_)); (first | done | fail))) (by ((repeat (first | exact blk_push_new _ _ | assumption | apply blk_push_old | apply blk_set_same | refine (blk_set_ne (by first | assumption | omega | (simp only [next_push, next_set, next_kill, ne_eq]; omega))).trans ?_ | refine (blk_kill_ne (by first | assumption | omega | (simp only [next_push, next_set, next_kill, ne_eq]; omega))).trans ?_)); (first | done | fail))) hcc' hn hw hsp hv hk) Try.call81 rfl rfl) ?_
  refine al_opd rfl rfl rfl (ao_as (v := .int _ _) rfl) ?_
  refine al_nilT ?_
  refine aw_seq ?_
  refine aw_region ?_
  refine al_opd rfl rfl rfl (ao_mv (v := .int _ _) rfl) ?_
  refine al_opd rfl rfl rfl (ao_neq rfl rfl) ?_
  refine al_nilT ?_
  refine aw_cond rfl (fun h1_ => ?_) (fun h1_ => ?_)
  · try simp only [decide_eq_true_eq, decide_eq_false_iff_not, Bool.not_eq_true', Bool.not_eq_false', Bool.and_eq_true, Bool.or_eq_true, Bool.and_eq_false_iff, Bool.or_eq_false_iff, beq_iff_eq, bne_iff_ne, beq_eq_false_iff_ne, bne_eq_false_iff_eq, ne_eq, Decidable.not_not, Bool.decide_eq_true] at h1_
    first | done | omega | (exfalso; revert h1_; simp; (first | done | omega))
  · try simp only [decide_eq_true_eq, decide_eq_false_iff_not, Bool.not_eq_true', Bool.not_eq_false', Bool.and_eq_true, Bool.or_eq_true, Bool.and_eq_false_iff, Bool.or_eq_false_iff, beq_iff_eq, bne_iff_ne, beq_eq_false_iff_ne, bne_eq_false_iff_eq, ne_eq, Decidable.not_not, Bool.decide_eq_true] at h1_
    refine aw_skipT ?_
    refine aw_seq ?_
    refine aw_region ?_
    refine al_opd rfl rfl rfl (ao_mv (v := .slice _ _ _) rfl) ?_
    refine al_opd rfl rfl rfl (ao_mv (v := .int _ _) rfl) ?_
    refine al_opd rfl rfl rfl (ao_calld (l02Can_c (l := l) (lb := lb) (c' := c') (r := r) (k := k) (b := b) (by ((repeat (first | exact blk_push_new _ _ | assumption | apply blk_push_old | apply blk_set_same | refine (blk_set_ne (by first | assumption | omega | (simp only [next_push, next_set, next_kill, ne_eq]; omega))).trans ?_ | refine (blk_kill_ne (by first | assumption | omega | (simp only [next_push, next_set, next_kill, ne_eq]; omega))).trans ?_)); (first | done | fail))) (by ((repeat (first | exact blk_push_new _ _ | assumption | apply blk_push_old | apply blk_set_same | refine (blk_set_ne (by first | assumption | omega | (simp only [next_push, next_set, next_kill, ne_eq]; omega))).trans ?_ | refine (blk_kill_ne (by first | assumption | omega | (simp only [next_push, next_set, next_kill, ne_eq]; omega))).trans ?_)); (first | done | fail))) hcc' hn hv.1 hw hsp hv.2.1.2.1 hk hb) Try.call82 rfl rfl) ?_
    refine al_opd rfl rfl rfl (ao_as (v := .bool _) rfl) ?_
    refine al_opd rfl rfl rfl (ao_as (v := .int _ _) rfl) ?_
    refine al_nilT ?_
    refine aw_ret ?_
    refine ends2 rfl (rv_tmp (v := .bool _) rfl) (rv_tmp (v := .int _ _) rfl) ?_
    exact ⟨by first | rfl | (simp [*]; (first | done | fail)), by (repeat (first | exact Same.refl _ _ | assumption | refine Same.push ?_ (by (first | exact Nat.le_refl _ | omega | (simp only [next_push, next_set, next_kill]; omega))) _ | refine Same.set ?_ (by (first | exact Nat.le_refl _ | omega | (simp only [next_push, next_set, next_kill]; omega))) _ | refine Same.kill ?_ (by (first | exact Nat.le_refl _ | omega | (simp only [next_push, next_set, next_kill]; omega)))))⟩

-- impl.CanMove
theorem implCan2_c {l : List Spot} {lb c' : Nat} {r : Room} {k : Int} {H : AHeap} (hk0 : H.blk lb = some (.cells (fl spot l) 2)) (hcc' : l.length ≤ c') (hn : l.length ≤ 4194304) (hw : wfRoom r) (hsp : wfSpots l) (hv : okFile r l) (hk : ¬ (0 ≤ k ∧ k ≤ 5)) : ACd Try.prog 48 [.agg (roomC r).toArray, .slice (some ⟨lb, 0, none⟩) l.length c', .int .i64 k] H (.tuple #[.bool false, .int .i64 2]) (H) := by
  have hh0 : Sl H spot 2 (.slice (some ⟨lb, 0, none⟩) l.length c') l := Sl.full spot_len hk0 rfl rfl rfl
  have hlt0 := AHeap.lt hk0
  refine ac_gc0 (fun β => VR.plainT β (by first | rfl | simp [plainT, plainV, plain1])) (ac_body Try.func48 rfl Try.ntmps48 rfl ?_)
  refine aw_seq ?_
  refine aw_region ?_
  refine al_opd rfl rfl rfl (ao_boxa (by rfl)) ?_
  refine al_opd rfl rfl rfl (ao_as (v := .bool _) rfl) ?_
  refine al_opd rfl rfl rfl (ao_as (v := .int _ _) rfl) ?_
  refine al_nilT ?_
  refine aw_seq ?_
  refine aw_seq ?_
  refine aw_region ?_
  refine al_opd rfl rfl rfl (ao_loada Try.isAgg44 Try.sizeOf44 rfl (by ((repeat (first | exact blk_push_new _ _ | assumption | apply blk_push_old | apply blk_set_same | refine (blk_set_ne (by first | assumption | omega | (simp only [next_push, next_set, next_kill, ne_eq]; omega))).trans ?_ | refine (blk_kill_ne (by first | assumption | omega | (simp only [next_push, next_set, next_kill, ne_eq]; omega))).trans ?_)); (first | done | fail))) (by rfl) (by first | rfl | (simp; (first | done | fail)))) ?_
  refine al_opd rfl rfl rfl (ao_mv (v := .slice _ _ _) rfl) ?_
  refine al_opd rfl rfl rfl (ao_mv (v := .int _ _) rfl) ?_
  refine al_opd rfl rfl rfl (ao_calld (moveCode2_c (l := l) (lb := lb) (c' := c') (r := r) (k := k) (by ((repeat (first | exact blk_push_new _ _ | assumption | apply blk_push_old | apply blk_set_same | refine (blk_set_ne (by first | assumption | omega | (simp only [next_push, next_set, next_kill, ne_eq]; omega))).trans ?_ | refine (blk_kill_ne (by first | assumption | omega | (simp only [next_push, next_set, next_kill, ne_eq]; omega))).trans ?_)); (first | done | fail))) hcc' hn hw hsp hv hk) Try.call83 rfl rfl) ?_
  refine al_opd rfl rfl rfl (ao_as (v := .int _ _) rfl) ?_
  refine al_nilT ?_
  refine aw_seq ?_
  refine aw_region ?_
  refine al_opd rfl rfl rfl (ao_mv (v := .int _ _) rfl) ?_
  refine al_opd rfl rfl rfl (ao_neq rfl rfl) ?_
  refine al_nilT ?_
  refine aw_cond rfl (fun h1_ => ?_) (fun h1_ => ?_)
  · try simp only [decide_eq_true_eq, decide_eq_false_iff_not, Bool.not_eq_true', Bool.not_eq_false', Bool.and_eq_true, Bool.or_eq_true, Bool.and_eq_false_iff, Bool.or_eq_false_iff, beq_iff_eq, bne_iff_ne, beq_eq_false_iff_ne, bne_eq_false_iff_eq, ne_eq, Decidable.not_not, Bool.decide_eq_true] at h1_
    refine aw_seq ?_
    refine aw_region ?_
    refine al_opd rfl rfl rfl (ao_mv (v := .int _ _) rfl) ?_
    refine al_opd rfl rfl rfl (ao_as (v := .bool _) rfl) ?_
    refine al_opd rfl rfl rfl (ao_as (v := .int _ _) rfl) ?_
    refine al_nilT ?_
    refine aw_ret ?_
    refine thenA_r ?_
    refine ends2 rfl (rv_tmp (v := .bool _) rfl) (rv_tmp (v := .int _ _) rfl) ?_
    exact ⟨by first | rfl | (simp [*]; (first | done | fail)), by (repeat (first | exact Same.refl _ _ | assumption | refine Same.push ?_ (by (first | exact Nat.le_refl _ | omega | (simp only [next_push, next_set, next_kill]; omega))) _ | refine Same.set ?_ (by (first | exact Nat.le_refl _ | omega | (simp only [next_push, next_set, next_kill]; omega))) _ | refine Same.kill ?_ (by (first | exact Nat.le_refl _ | omega | (simp only [next_push, next_set, next_kill]; omega)))))⟩
  · try simp only [decide_eq_true_eq, decide_eq_false_iff_not, Bool.not_eq_true', Bool.not_eq_false', Bool.and_eq_true, Bool.or_eq_true, Bool.and_eq_false_iff, Bool.or_eq_false_iff, beq_iff_eq, bne_iff_ne, beq_eq_false_iff_ne, bne_eq_false_iff_eq, ne_eq, Decidable.not_not, Bool.decide_eq_true] at h1_
    first | done | omega | (exfalso; revert h1_; simp; (first | done | omega))

-- spec.CanMove
theorem specCan2_c {l : List Spot} {lb c' : Nat} {r : Room} {k : Int} {H : AHeap} (hk0 : H.blk lb = some (.cells (fl spot l) 2)) (hcc' : l.length ≤ c') (hn : l.length ≤ 4194304) (hw : wfRoom r) (hsp : wfSpots l) (hv : okFile r l) (hk : ¬ (0 ≤ k ∧ k ≤ 5)) : ACd Try.prog 47 [.agg (roomC r).toArray, .slice (some ⟨lb, 0, none⟩) l.length c', .int .i64 k] H (.tuple #[.bool false, .int .i64 2]) (H) := by
  have hh0 : Sl H spot 2 (.slice (some ⟨lb, 0, none⟩) l.length c') l := Sl.full spot_len hk0 rfl rfl rfl
  have hlt0 := AHeap.lt hk0
  refine ac_gc0 (fun β => VR.plainT β (by first | rfl | simp [plainT, plainV, plain1])) (ac_body Try.func47 rfl Try.ntmps47 rfl ?_)
  refine aw_seq ?_
  refine aw_region ?_
  refine al_opd rfl rfl rfl (ao_boxa (by rfl)) ?_
  refine al_opd rfl rfl rfl (ao_as (v := .bool _) rfl) ?_
  refine al_opd rfl rfl rfl (ao_as (v := .int _ _) rfl) ?_
  refine al_nilT ?_
  refine aw_seq ?_
  refine aw_seq ?_
  refine aw_region ?_
  refine al_opd rfl rfl rfl (ao_mv (v := .slice _ _ _) rfl) ?_
  refine al_opd rfl rfl rfl (ao_mv (v := .int _ _) rfl) ?_
  refine al_opd rfl rfl rfl (ao_calld (l02Asked2_c (l := l) (lb := lb) (c' := c') (r := r) (k := k) (by ((repeat (first | exact blk_push_new _ _ | assumption | apply blk_push_old | apply blk_set_same | refine (blk_set_ne (by first | assumption | omega | (simp only [next_push, next_set, next_kill, ne_eq]; omega))).trans ?_ | refine (blk_kill_ne (by first | assumption | omega | (simp only [next_push, next_set, next_kill, ne_eq]; omega))).trans ?_)); (first | done | fail))) (by ((repeat (first | exact blk_push_new _ _ | assumption | apply blk_push_old | apply blk_set_same | refine (blk_set_ne (by first | assumption | omega | (simp only [next_push, next_set, next_kill, ne_eq]; omega))).trans ?_ | refine (blk_kill_ne (by first | assumption | omega | (simp only [next_push, next_set, next_kill, ne_eq]; omega))).trans ?_)); (first | done | fail))) hcc' hn hw hsp hv hk) Try.call81 rfl rfl) ?_
  refine al_opd rfl rfl rfl (ao_as (v := .int _ _) rfl) ?_
  refine al_nilT ?_
  refine aw_seq ?_
  refine aw_region ?_
  refine al_opd rfl rfl rfl (ao_mv (v := .int _ _) rfl) ?_
  refine al_opd rfl rfl rfl (ao_neq rfl rfl) ?_
  refine al_nilT ?_
  refine aw_cond rfl (fun h1_ => ?_) (fun h1_ => ?_)
  · try simp only [decide_eq_true_eq, decide_eq_false_iff_not, Bool.not_eq_true', Bool.not_eq_false', Bool.and_eq_true, Bool.or_eq_true, Bool.and_eq_false_iff, Bool.or_eq_false_iff, beq_iff_eq, bne_iff_ne, beq_eq_false_iff_ne, bne_eq_false_iff_eq, ne_eq, Decidable.not_not, Bool.decide_eq_true] at h1_
    refine aw_seq ?_
    refine aw_region ?_
    refine al_opd rfl rfl rfl (ao_mv (v := .int _ _) rfl) ?_
    refine al_opd rfl rfl rfl (ao_as (v := .bool _) rfl) ?_
    refine al_opd rfl rfl rfl (ao_as (v := .int _ _) rfl) ?_
    refine al_nilT ?_
    refine aw_ret ?_
    refine thenA_r ?_
    refine ends2 rfl (rv_tmp (v := .bool _) rfl) (rv_tmp (v := .int _ _) rfl) ?_
    exact ⟨by first | rfl | (simp [*]; (first | done | fail)), by (repeat (first | exact Same.refl _ _ | assumption | refine Same.push ?_ (by (first | exact Nat.le_refl _ | omega | (simp only [next_push, next_set, next_kill]; omega))) _ | refine Same.set ?_ (by (first | exact Nat.le_refl _ | omega | (simp only [next_push, next_set, next_kill]; omega))) _ | refine Same.kill ?_ (by (first | exact Nat.le_refl _ | omega | (simp only [next_push, next_set, next_kill]; omega)))))⟩
  · try simp only [decide_eq_true_eq, decide_eq_false_iff_not, Bool.not_eq_true', Bool.not_eq_false', Bool.and_eq_true, Bool.or_eq_true, Bool.and_eq_false_iff, Bool.or_eq_false_iff, beq_iff_eq, bne_iff_ne, beq_eq_false_iff_ne, bne_eq_false_iff_eq, ne_eq, Decidable.not_not, Bool.decide_eq_true] at h1_
    first | done | omega | (exfalso; revert h1_; simp; (first | done | omega))

-- impl.CanMove
theorem implCan0_c {l : List Spot} {lb c' : Nat} {r : Room} {k : Int} {H : AHeap} (hk0 : H.blk lb = some (.cells (fl spot l) 2)) (hcc' : l.length ≤ c') (hn : l.length ≤ 4194304) (hw : wfRoom r) (hsp : wfSpots l) (hv : ¬ okFile r l) : ACd Try.prog 48 [.agg (roomC r).toArray, .slice (some ⟨lb, 0, none⟩) l.length c', .int .i64 k] H (.tuple #[.bool false, .int .i64 1]) (H) := by
  have hh0 : Sl H spot 2 (.slice (some ⟨lb, 0, none⟩) l.length c') l := Sl.full spot_len hk0 rfl rfl rfl
  have hlt0 := AHeap.lt hk0
  refine ac_gc0 (fun β => VR.plainT β (by first | rfl | simp [plainT, plainV, plain1])) (ac_body Try.func48 rfl Try.ntmps48 rfl ?_)
  refine aw_seq ?_
  refine aw_region ?_
  refine al_opd rfl rfl rfl (ao_boxa (by rfl)) ?_
  refine al_opd rfl rfl rfl (ao_as (v := .bool _) rfl) ?_
  refine al_opd rfl rfl rfl (ao_as (v := .int _ _) rfl) ?_
  refine al_nilT ?_
  refine aw_seq ?_
  refine aw_seq ?_
  refine aw_region ?_
  refine al_opd rfl rfl rfl (ao_loada Try.isAgg44 Try.sizeOf44 rfl (by ((repeat (first | exact blk_push_new _ _ | assumption | apply blk_push_old | apply blk_set_same | refine (blk_set_ne (by first | assumption | omega | (simp only [next_push, next_set, next_kill, ne_eq]; omega))).trans ?_ | refine (blk_kill_ne (by first | assumption | omega | (simp only [next_push, next_set, next_kill, ne_eq]; omega))).trans ?_)); (first | done | fail))) (by rfl) (by first | rfl | (simp; (first | done | fail)))) ?_
  refine al_opd rfl rfl rfl (ao_mv (v := .slice _ _ _) rfl) ?_
  refine al_opd rfl rfl rfl (ao_mv (v := .int _ _) rfl) ?_
  refine al_opd rfl rfl rfl (ao_calld (moveCode0_c (l := l) (lb := lb) (c' := c') (r := r) (k := k) (by ((repeat (first | exact blk_push_new _ _ | assumption | apply blk_push_old | apply blk_set_same | refine (blk_set_ne (by first | assumption | omega | (simp only [next_push, next_set, next_kill, ne_eq]; omega))).trans ?_ | refine (blk_kill_ne (by first | assumption | omega | (simp only [next_push, next_set, next_kill, ne_eq]; omega))).trans ?_)); (first | done | fail))) hcc' hn hw hsp hv) Try.call83 rfl rfl) ?_
  refine al_opd rfl rfl rfl (ao_as (v := .int _ _) rfl) ?_
  refine al_nilT ?_
  refine aw_seq ?_
  refine aw_region ?_
  refine al_opd rfl rfl rfl (ao_mv (v := .int _ _) rfl) ?_
  refine al_opd rfl rfl rfl (ao_neq rfl rfl) ?_
  refine al_nilT ?_
  refine aw_cond rfl (fun h1_ => ?_) (fun h1_ => ?_)
  · try simp only [decide_eq_true_eq, decide_eq_false_iff_not, Bool.not_eq_true', Bool.not_eq_false', Bool.and_eq_true, Bool.or_eq_true, Bool.and_eq_false_iff, Bool.or_eq_false_iff, beq_iff_eq, bne_iff_ne, beq_eq_false_iff_ne, bne_eq_false_iff_eq, ne_eq, Decidable.not_not, Bool.decide_eq_true] at h1_
    refine aw_seq ?_
    refine aw_region ?_
    refine al_opd rfl rfl rfl (ao_mv (v := .int _ _) rfl) ?_
    refine al_opd rfl rfl rfl (ao_as (v := .bool _) rfl) ?_
    refine al_opd rfl rfl rfl (ao_as (v := .int _ _) rfl) ?_
    refine al_nilT ?_
    refine aw_ret ?_
    refine thenA_r ?_
    refine ends2 rfl (rv_tmp (v := .bool _) rfl) (rv_tmp (v := .int _ _) rfl) ?_
    exact ⟨by first | rfl | (simp [*]; (first | done | fail)), by (repeat (first | exact Same.refl _ _ | assumption | refine Same.push ?_ (by (first | exact Nat.le_refl _ | omega | (simp only [next_push, next_set, next_kill]; omega))) _ | refine Same.set ?_ (by (first | exact Nat.le_refl _ | omega | (simp only [next_push, next_set, next_kill]; omega))) _ | refine Same.kill ?_ (by (first | exact Nat.le_refl _ | omega | (simp only [next_push, next_set, next_kill]; omega)))))⟩
  · try simp only [decide_eq_true_eq, decide_eq_false_iff_not, Bool.not_eq_true', Bool.not_eq_false', Bool.and_eq_true, Bool.or_eq_true, Bool.and_eq_false_iff, Bool.or_eq_false_iff, beq_iff_eq, bne_iff_ne, beq_eq_false_iff_ne, bne_eq_false_iff_eq, ne_eq, Decidable.not_not, Bool.decide_eq_true] at h1_
    first | done | omega | (exfalso; revert h1_; simp; (first | done | omega))

-- spec.CanMove
theorem specCan0_c {l : List Spot} {lb c' : Nat} {r : Room} {k : Int} {H : AHeap} (hk0 : H.blk lb = some (.cells (fl spot l) 2)) (hcc' : l.length ≤ c') (hn : l.length ≤ 4194304) (hw : wfRoom r) (hsp : wfSpots l) (hv : ¬ okFile r l) : ACd Try.prog 47 [.agg (roomC r).toArray, .slice (some ⟨lb, 0, none⟩) l.length c', .int .i64 k] H (.tuple #[.bool false, .int .i64 1]) (H) := by
  have hh0 : Sl H spot 2 (.slice (some ⟨lb, 0, none⟩) l.length c') l := Sl.full spot_len hk0 rfl rfl rfl
  have hlt0 := AHeap.lt hk0
  refine ac_gc0 (fun β => VR.plainT β (by first | rfl | simp [plainT, plainV, plain1])) (ac_body Try.func47 rfl Try.ntmps47 rfl ?_)
  refine aw_seq ?_
  refine aw_region ?_
  refine al_opd rfl rfl rfl (ao_boxa (by rfl)) ?_
  refine al_opd rfl rfl rfl (ao_as (v := .bool _) rfl) ?_
  refine al_opd rfl rfl rfl (ao_as (v := .int _ _) rfl) ?_
  refine al_nilT ?_
  refine aw_seq ?_
  refine aw_seq ?_
  refine aw_region ?_
  refine al_opd rfl rfl rfl (ao_mv (v := .slice _ _ _) rfl) ?_
  refine al_opd rfl rfl rfl (ao_mv (v := .int _ _) rfl) ?_
  refine al_opd rfl rfl rfl (ao_calld (l02Asked0_c (l := l) (lb := lb) (c' := c') (r := r) (k := k) (by ((repeat (first | exact blk_push_new _ _ | assumption | apply blk_push_old | apply blk_set_same | refine (blk_set_ne (by first | assumption | omega | (simp only [next_push, next_set, next_kill, ne_eq]; omega))).trans ?_ | refine (blk_kill_ne (by first | assumption | omega | (simp only [next_push, next_set, next_kill, ne_eq]; omega))).trans ?_)); (first | done | fail))) (by ((repeat (first | exact blk_push_new _ _ | assumption | apply blk_push_old | apply blk_set_same | refine (blk_set_ne (by first | assumption | omega | (simp only [next_push, next_set, next_kill, ne_eq]; omega))).trans ?_ | refine (blk_kill_ne (by first | assumption | omega | (simp only [next_push, next_set, next_kill, ne_eq]; omega))).trans ?_)); (first | done | fail))) hcc' hn hw hsp hv) Try.call81 rfl rfl) ?_
  refine al_opd rfl rfl rfl (ao_as (v := .int _ _) rfl) ?_
  refine al_nilT ?_
  refine aw_seq ?_
  refine aw_region ?_
  refine al_opd rfl rfl rfl (ao_mv (v := .int _ _) rfl) ?_
  refine al_opd rfl rfl rfl (ao_neq rfl rfl) ?_
  refine al_nilT ?_
  refine aw_cond rfl (fun h1_ => ?_) (fun h1_ => ?_)
  · try simp only [decide_eq_true_eq, decide_eq_false_iff_not, Bool.not_eq_true', Bool.not_eq_false', Bool.and_eq_true, Bool.or_eq_true, Bool.and_eq_false_iff, Bool.or_eq_false_iff, beq_iff_eq, bne_iff_ne, beq_eq_false_iff_ne, bne_eq_false_iff_eq, ne_eq, Decidable.not_not, Bool.decide_eq_true] at h1_
    refine aw_seq ?_
    refine aw_region ?_
    refine al_opd rfl rfl rfl (ao_mv (v := .int _ _) rfl) ?_
    refine al_opd rfl rfl rfl (ao_as (v := .bool _) rfl) ?_
    refine al_opd rfl rfl rfl (ao_as (v := .int _ _) rfl) ?_
    refine al_nilT ?_
    refine aw_ret ?_
    refine thenA_r ?_
    refine ends2 rfl (rv_tmp (v := .bool _) rfl) (rv_tmp (v := .int _ _) rfl) ?_
    exact ⟨by first | rfl | (simp [*]; (first | done | fail)), by (repeat (first | exact Same.refl _ _ | assumption | refine Same.push ?_ (by (first | exact Nat.le_refl _ | omega | (simp only [next_push, next_set, next_kill]; omega))) _ | refine Same.set ?_ (by (first | exact Nat.le_refl _ | omega | (simp only [next_push, next_set, next_kill]; omega))) _ | refine Same.kill ?_ (by (first | exact Nat.le_refl _ | omega | (simp only [next_push, next_set, next_kill]; omega)))))⟩
  · try simp only [decide_eq_true_eq, decide_eq_false_iff_not, Bool.not_eq_true', Bool.not_eq_false', Bool.and_eq_true, Bool.or_eq_true, Bool.and_eq_false_iff, Bool.or_eq_false_iff, beq_iff_eq, bne_iff_ne, beq_eq_false_iff_ne, bne_eq_false_iff_eq, ne_eq, Decidable.not_not, Bool.decide_eq_true] at h1_
    first | done | omega | (exfalso; revert h1_; simp; (first | done | omega))

-- laws.FnExactCanMove
theorem lawCan1_c {r : Room} {v : Value} {l : List Spot} {k : Int} {H : AHeap} (hw : wfRoom r) (ha : Sl H spot 2 v l) (hl : l.length ≤ 9223372036854775807) (hsp : wfSpots l) (hv : okFile r l) (hk : 0 ≤ k ∧ k ≤ 5) : ACd Try.prog 13 [.agg (roomC r).toArray, v, .int .i64 k] H (.bool true) (H) := by
  obtain ⟨b, hb⟩ := exists_bool (canM r l k)
  refine ac_gc0 (fun β => VR.plainT β (by first | rfl | simp [plainT, plainV, plain1])) (ac_body Try.func13 rfl Try.ntmps13 rfl ?_)
  refine aw_seq ?_
  refine aw_region ?_
  refine al_opd rfl rfl rfl (ao_boxa (by rfl)) ?_
  refine al_opd rfl rfl rfl (ao_as (v := .bool _) rfl) ?_
  refine al_nilT ?_
  refine aw_seq ?_
  refine aw_region ?_
  refine al_opd rfl rfl rfl (ao_as (v := .int _ _) rfl) ?_
  refine al_nilT ?_
  refine aw_seq ?_
  refine aw_region ?_
  first | refine al_opd rfl rfl rfl (ao_mv (v := .slice _ _ _) rfl) ?_ | refine al_opd rfl rfl rfl (ao_mv (v := v) rfl) ?_
  refine al_opd rfl rfl rfl (ao_mv (v := .int _ _) rfl) ?_
  refine al_opd rfl rfl rfl (ao_calld (szFile_c (v := v) (l := l) (k := 1048576) (ha.mono (by (repeat (first | exact Same.refl _ _ | assumption | refine Same.push ?_ (by (first | exact Nat.le_refl _ | omega | (simp only [next_push, next_set, next_kill]; omega))) _ | refine Same.set ?_ (by (first | exact Nat.le_refl _ | omega | (simp only [next_push, next_set, next_kill]; omega))) _ | refine Same.kill ?_ (by (first | exact Nat.le_refl _ | omega | (simp only [next_push, next_set, next_kill]; omega))))))) hl (by omega)) Try.call17 rfl rfl) ?_
  refine al_opd rfl rfl rfl (ao_as (v := .int _ _) rfl) ?_
  refine al_nilT ?_
  refine aw_seq ?_
  refine aw_seq ?_
  refine aw_region ?_
  refine al_opd rfl rfl rfl (ao_mv (v := .int _ _) rfl) ?_
  refine al_opd rfl rfl rfl (ao_lss rfl rfl) ?_
  refine al_nilT ?_
  refine aw_cond rfl (fun h1_ => ?_) (fun h1_ => ?_)
  · try simp only [decide_eq_true_eq, decide_eq_false_iff_not, Bool.not_eq_true', Bool.not_eq_false', Bool.and_eq_true, Bool.or_eq_true, Bool.and_eq_false_iff, Bool.or_eq_false_iff, beq_iff_eq, bne_iff_ne, beq_eq_false_iff_ne, bne_eq_false_iff_eq, ne_eq, Decidable.not_not, Bool.decide_eq_true] at h1_
    refine aw_seq ?_
    refine aw_region ?_
    refine al_opd rfl rfl rfl (ao_as (v := .bool _) rfl) ?_
    refine al_nilT ?_
    refine aw_ret ?_
    refine thenA_r ?_
    refine ends1 rfl (rv_tmp (v := .bool _) rfl) ?_
    exact ⟨by first | rfl | (simp [*]; (first | done | fail)), by (repeat (first | exact Same.refl _ _ | assumption | refine Same.push ?_ (by (first | exact Nat.le_refl _ | omega | (simp only [next_push, next_set, next_kill]; omega))) _ | refine Same.set ?_ (by (first | exact Nat.le_refl _ | omega | (simp only [next_push, next_set, next_kill]; omega))) _ | refine Same.kill ?_ (by (first | exact Nat.le_refl _ | omega | (simp only [next_push, next_set, next_kill]; omega)))))⟩
  · try simp only [decide_eq_true_eq, decide_eq_false_iff_not, Bool.not_eq_true', Bool.not_eq_false', Bool.and_eq_true, Bool.or_eq_true, Bool.and_eq_false_iff, Bool.or_eq_false_iff, beq_iff_eq, bne_iff_ne, beq_eq_false_iff_ne, bne_eq_false_iff_eq, ne_eq, Decidable.not_not, Bool.decide_eq_true] at h1_
    have hl1 : l.length ≤ 1048576 := by omega
    refine aw_skipT ?_
    refine aw_seq ?_
    refine aw_region ?_
    refine al_opd rfl rfl rfl (ao_loada Try.isAgg42 Try.sizeOf42 rfl (by ((repeat (first | exact blk_push_new _ _ | assumption | apply blk_push_old | apply blk_set_same | refine (blk_set_ne (by first | assumption | omega | (simp only [next_push, next_set, next_kill, ne_eq]; omega))).trans ?_ | refine (blk_kill_ne (by first | assumption | omega | (simp only [next_push, next_set, next_kill, ne_eq]; omega))).trans ?_)); (first | done | fail))) (by rfl) (by first | rfl | (simp; (first | done | fail)))) ?_
    refine al_opd rfl rfl rfl (ao_calld (toRoom_c (r := r)) Try.call31 rfl rfl) ?_
    first | refine al_opd rfl rfl rfl (ao_mv (v := .slice _ _ _) rfl) ?_ | refine al_opd rfl rfl rfl (ao_mv (v := v) rfl) ?_
    refine al_opd rfl rfl rfl (ao_calld (toFile_c (v := v) (l := l) (ha.mono (by (repeat (first | exact Same.refl _ _ | assumption | refine Same.push ?_ (by (first | exact Nat.le_refl _ | omega | (simp only [next_push, next_set, next_kill]; omega))) _ | refine Same.set ?_ (by (first | exact Nat.le_refl _ | omega | (simp only [next_push, next_set, next_kill]; omega))) _ | refine Same.kill ?_ (by (first | exact Nat.le_refl _ | omega | (simp only [next_push, next_set, next_kill]; omega))))))) (by omega)) Try.call19 rfl rfl) ?_
    refine al_opd rfl rfl rfl (ao_mv (v := .int _ _) rfl) ?_
    refine al_opd rfl rfl rfl (ao_calld (specCan1_c (l := l) (r := r) (by ((repeat (first | exact blk_push_new _ _ | assumption | apply blk_push_old | apply blk_set_same | refine (blk_set_ne (by first | assumption | omega | (simp only [next_push, next_set, next_kill, ne_eq]; omega))).trans ?_ | refine (blk_kill_ne (by first | assumption | omega | (simp only [next_push, next_set, next_kill, ne_eq]; omega))).trans ?_)); (first | done | fail))) (by omega) (by omega) hw hsp hv hk hb) Try.call47 rfl rfl) ?_
    refine al_opd rfl rfl rfl (ao_mv (v := .tuple _) rfl) ?_
    refine al_opd rfl rfl rfl (ao_extract (v := .bool _) rfl rfl) ?_
    refine al_opd rfl rfl rfl (ao_extract (v := .int _ _) rfl rfl) ?_
    refine al_opd rfl rfl rfl (ao_as (v := .bool _) rfl) ?_
    refine al_opd rfl rfl rfl (ao_as (v := .int _ _) rfl) ?_
    refine al_nilT ?_
    refine aw_seq ?_
    refine aw_region ?_
    first | refine al_opd rfl rfl rfl (ao_mv (v := .slice _ _ _) rfl) ?_ | refine al_opd rfl rfl rfl (ao_mv (v := v) rfl) ?_
    refine al_opd rfl rfl rfl (ao_calld (toFile_c (v := v) (l := l) (ha.mono (by (repeat (first | exact Same.refl _ _ | assumption | refine Same.push ?_ (by (first | exact Nat.le_refl _ | omega | (simp only [next_push, next_set, next_kill]; omega))) _ | refine Same.set ?_ (by (first | exact Nat.le_refl _ | omega | (simp only [next_push, next_set, next_kill]; omega))) _ | refine Same.kill ?_ (by (first | exact Nat.le_refl _ | omega | (simp only [next_push, next_set, next_kill]; omega))))))) (by omega)) Try.call19 rfl rfl) ?_
    first | refine al_opd rfl rfl rfl (ao_as (v := .slice _ _ _) rfl) ?_ | refine al_opd rfl rfl rfl (ao_as (v := v) rfl) ?_
    refine al_nilT ?_
    refine aw_seq ?_
    refine aw_region ?_
    refine al_opd rfl rfl rfl (ao_loada Try.isAgg42 Try.sizeOf42 rfl (by ((repeat (first | exact blk_push_new _ _ | assumption | apply blk_push_old | apply blk_set_same | refine (blk_set_ne (by first | assumption | omega | (simp only [next_push, next_set, next_kill, ne_eq]; omega))).trans ?_ | refine (blk_kill_ne (by first | assumption | omega | (simp only [next_push, next_set, next_kill, ne_eq]; omega))).trans ?_)); (first | done | fail))) (by rfl) (by first | rfl | (simp; (first | done | fail)))) ?_
    refine al_opd rfl rfl rfl (ao_calld (toRoom_c (r := r)) Try.call31 rfl rfl) ?_
    first | refine al_opd rfl rfl rfl (ao_mv (v := .slice _ _ _) rfl) ?_ | refine al_opd rfl rfl rfl (ao_mv (v := v) rfl) ?_
    refine al_opd rfl rfl rfl (ao_mv (v := .int _ _) rfl) ?_
    refine al_opd rfl rfl rfl (ao_calld (implCan1_c (l := l) (r := r) (by ((repeat (first | exact blk_push_new _ _ | assumption | apply blk_push_old | apply blk_set_same | refine (blk_set_ne (by first | assumption | omega | (simp only [next_push, next_set, next_kill, ne_eq]; omega))).trans ?_ | refine (blk_kill_ne (by first | assumption | omega | (simp only [next_push, next_set, next_kill, ne_eq]; omega))).trans ?_)); (first | done | fail))) (by omega) (by omega) hw hsp hv hk hb) Try.call48 rfl rfl) ?_
    refine al_opd rfl rfl rfl (ao_mv (v := .tuple _) rfl) ?_
    refine al_opd rfl rfl rfl (ao_extract (v := .bool _) rfl rfl) ?_
    refine al_opd rfl rfl rfl (ao_extract (v := .int _ _) rfl rfl) ?_
    refine al_opd rfl rfl rfl (ao_as (v := .bool _) rfl) ?_
    refine al_opd rfl rfl rfl (ao_as (v := .int _ _) rfl) ?_
    refine al_nilT ?_
    refine aw_seq ?_
    refine aw_seq ?_
    refine aw_region ?_
    refine al_opd rfl rfl rfl (ao_mv (v := .bool _) rfl) ?_
    refine al_opd rfl rfl rfl (ao_mv (v := .bool _) rfl) ?_
    refine al_opd rfl rfl rfl (ao_neB Try.underlying4 rfl rfl) ?_
    refine al_opd rfl rfl rfl (ao_mv (v := .bool _) rfl) ?_
    refine al_cases (d := 40) rfl (fun h2_ => ?_) (fun h2_ => ?_)
    · try simp only [decide_eq_true_eq, decide_eq_false_iff_not, Bool.not_eq_true', Bool.not_eq_false', Bool.and_eq_true, Bool.or_eq_true, Bool.and_eq_false_iff, Bool.or_eq_false_iff, beq_iff_eq, bne_iff_ne, beq_eq_false_iff_ne, bne_eq_false_iff_eq, ne_eq, Decidable.not_not, Bool.decide_eq_true] at h2_
      first | done | omega | (exfalso; revert h2_; simp; (first | done | omega))
    · try simp only [decide_eq_true_eq, decide_eq_false_iff_not, Bool.not_eq_true', Bool.not_eq_false', Bool.and_eq_true, Bool.or_eq_true, Bool.and_eq_false_iff, Bool.or_eq_false_iff, beq_iff_eq, bne_iff_ne, beq_eq_false_iff_ne, bne_eq_false_iff_eq, ne_eq, Decidable.not_not, Bool.decide_eq_true] at h2_
      refine al_gyes rfl rfl rfl rfl rfl (ao_mv (v := .int _ _) rfl) ?_
      refine al_gyes rfl rfl rfl rfl rfl (ao_mv (v := .int _ _) rfl) ?_
      refine al_gyes rfl rfl rfl rfl rfl (ao_neq rfl rfl) ?_
      refine al_opd rfl rfl rfl (ao_pickF rfl (v := .bool _) rfl) ?_
      refine al_nilT ?_
      refine aw_cond rfl (fun h3_ => ?_) (fun h3_ => ?_)
      · try simp only [decide_eq_true_eq, decide_eq_false_iff_not, Bool.not_eq_true', Bool.not_eq_false', Bool.and_eq_true, Bool.or_eq_true, Bool.and_eq_false_iff, Bool.or_eq_false_iff, beq_iff_eq, bne_iff_ne, beq_eq_false_iff_ne, bne_eq_false_iff_eq, ne_eq, Decidable.not_not, Bool.decide_eq_true] at h3_
        first | done | omega | (exfalso; revert h3_; simp; (first | done | omega))
      · try simp only [decide_eq_true_eq, decide_eq_false_iff_not, Bool.not_eq_true', Bool.not_eq_false', Bool.and_eq_true, Bool.or_eq_true, Bool.and_eq_false_iff, Bool.or_eq_false_iff, beq_iff_eq, bne_iff_ne, beq_eq_false_iff_ne, bne_eq_false_iff_eq, ne_eq, Decidable.not_not, Bool.decide_eq_true] at h3_
        refine aw_skipT ?_
        refine aw_seq ?_
        refine aw_seq ?_
        refine aw_region ?_
        first | refine al_opd rfl rfl rfl (ao_mv (v := .slice _ _ _) rfl) ?_ | refine al_opd rfl rfl rfl (ao_mv (v := v) rfl) ?_
        first | refine al_opd rfl rfl rfl (ao_mv (v := .slice _ _ _) rfl) ?_ | refine al_opd rfl rfl rfl (ao_mv (v := v) rfl) ?_
        refine al_opd rfl rfl rfl (ao_calld (toFile_c (v := v) (l := l) (ha.mono (by (repeat (first | exact Same.refl _ _ | assumption | refine Same.push ?_ (by (first | exact Nat.le_refl _ | omega | (simp only [next_push, next_set, next_kill]; omega))) _ | refine Same.set ?_ (by (first | exact Nat.le_refl _ | omega | (simp only [next_push, next_set, next_kill]; omega))) _ | refine Same.kill ?_ (by (first | exact Nat.le_refl _ | omega | (simp only [next_push, next_set, next_kill]; omega))))))) (by omega)) Try.call19 rfl rfl) ?_
        refine al_opd rfl rfl rfl (ao_calld (eqFile_c (l := l) (m := l) (Sl.full spot_len (by ((repeat (first | exact blk_push_new _ _ | assumption | apply blk_push_old | apply blk_set_same | refine (blk_set_ne (by first | assumption | omega | (simp only [next_push, next_set, next_kill, ne_eq]; omega))).trans ?_ | refine (blk_kill_ne (by first | assumption | omega | (simp only [next_push, next_set, next_kill, ne_eq]; omega))).trans ?_)); (first | done | fail))) rfl rfl rfl) (Sl.full spot_len (by ((repeat (first | exact blk_push_new _ _ | assumption | apply blk_push_old | apply blk_set_same | refine (blk_set_ne (by first | assumption | omega | (simp only [next_push, next_set, next_kill, ne_eq]; omega))).trans ?_ | refine (blk_kill_ne (by first | assumption | omega | (simp only [next_push, next_set, next_kill, ne_eq]; omega))).trans ?_)); (first | done | fail))) rfl rfl rfl) (by omega)) Try.call21 rfl rfl) ?_
        refine al_opd rfl rfl rfl (ao_not rfl) ?_
        refine al_nilT ?_
        refine aw_cond rfl (fun h4_ => ?_) (fun h4_ => ?_)
        · try simp only [decide_eq_true_eq, decide_eq_false_iff_not, Bool.not_eq_true', Bool.not_eq_false', Bool.and_eq_true, Bool.or_eq_true, Bool.and_eq_false_iff, Bool.or_eq_false_iff, beq_iff_eq, bne_iff_ne, beq_eq_false_iff_ne, bne_eq_false_iff_eq, ne_eq, Decidable.not_not, Bool.decide_eq_true] at h4_
          first | done | omega | (exfalso; revert h4_; simp; (first | done | omega))
        · try simp only [decide_eq_true_eq, decide_eq_false_iff_not, Bool.not_eq_true', Bool.not_eq_false', Bool.and_eq_true, Bool.or_eq_true, Bool.and_eq_false_iff, Bool.or_eq_false_iff, beq_iff_eq, bne_iff_ne, beq_eq_false_iff_ne, bne_eq_false_iff_eq, ne_eq, Decidable.not_not, Bool.decide_eq_true] at h4_
          refine aw_skipT ?_
          refine aw_seq ?_
          refine aw_region ?_
          refine al_opd rfl rfl rfl (ao_as (v := .bool _) rfl) ?_
          refine al_nilT ?_
          refine aw_ret ?_
          refine ends1 rfl (rv_tmp (v := .bool _) rfl) ?_
          exact ⟨by first | rfl | (simp [*]; (first | done | fail)), by (repeat (first | exact Same.refl _ _ | assumption | refine Same.push ?_ (by (first | exact Nat.le_refl _ | omega | (simp only [next_push, next_set, next_kill]; omega))) _ | refine Same.set ?_ (by (first | exact Nat.le_refl _ | omega | (simp only [next_push, next_set, next_kill]; omega))) _ | refine Same.kill ?_ (by (first | exact Nat.le_refl _ | omega | (simp only [next_push, next_set, next_kill]; omega)))))⟩

-- laws.FnExactCanMove
theorem lawCan2_c {r : Room} {v : Value} {l : List Spot} {k : Int} {H : AHeap} (hw : wfRoom r) (ha : Sl H spot 2 v l) (hl : l.length ≤ 9223372036854775807) (hsp : wfSpots l) (hv : okFile r l) (hk : ¬ (0 ≤ k ∧ k ≤ 5)) : ACd Try.prog 13 [.agg (roomC r).toArray, v, .int .i64 k] H (.bool true) (H) := by
  refine ac_gc0 (fun β => VR.plainT β (by first | rfl | simp [plainT, plainV, plain1])) (ac_body Try.func13 rfl Try.ntmps13 rfl ?_)
  refine aw_seq ?_
  refine aw_region ?_
  refine al_opd rfl rfl rfl (ao_boxa (by rfl)) ?_
  refine al_opd rfl rfl rfl (ao_as (v := .bool _) rfl) ?_
  refine al_nilT ?_
  refine aw_seq ?_
  refine aw_region ?_
  refine al_opd rfl rfl rfl (ao_as (v := .int _ _) rfl) ?_
  refine al_nilT ?_
  refine aw_seq ?_
  refine aw_region ?_
  first | refine al_opd rfl rfl rfl (ao_mv (v := .slice _ _ _) rfl) ?_ | refine al_opd rfl rfl rfl (ao_mv (v := v) rfl) ?_
  refine al_opd rfl rfl rfl (ao_mv (v := .int _ _) rfl) ?_
  refine al_opd rfl rfl rfl (ao_calld (szFile_c (v := v) (l := l) (k := 1048576) (ha.mono (by (repeat (first | exact Same.refl _ _ | assumption | refine Same.push ?_ (by (first | exact Nat.le_refl _ | omega | (simp only [next_push, next_set, next_kill]; omega))) _ | refine Same.set ?_ (by (first | exact Nat.le_refl _ | omega | (simp only [next_push, next_set, next_kill]; omega))) _ | refine Same.kill ?_ (by (first | exact Nat.le_refl _ | omega | (simp only [next_push, next_set, next_kill]; omega))))))) hl (by omega)) Try.call17 rfl rfl) ?_
  refine al_opd rfl rfl rfl (ao_as (v := .int _ _) rfl) ?_
  refine al_nilT ?_
  refine aw_seq ?_
  refine aw_seq ?_
  refine aw_region ?_
  refine al_opd rfl rfl rfl (ao_mv (v := .int _ _) rfl) ?_
  refine al_opd rfl rfl rfl (ao_lss rfl rfl) ?_
  refine al_nilT ?_
  refine aw_cond rfl (fun h1_ => ?_) (fun h1_ => ?_)
  · try simp only [decide_eq_true_eq, decide_eq_false_iff_not, Bool.not_eq_true', Bool.not_eq_false', Bool.and_eq_true, Bool.or_eq_true, Bool.and_eq_false_iff, Bool.or_eq_false_iff, beq_iff_eq, bne_iff_ne, beq_eq_false_iff_ne, bne_eq_false_iff_eq, ne_eq, Decidable.not_not, Bool.decide_eq_true] at h1_
    refine aw_seq ?_
    refine aw_region ?_
    refine al_opd rfl rfl rfl (ao_as (v := .bool _) rfl) ?_
    refine al_nilT ?_
    refine aw_ret ?_
    refine thenA_r ?_
    refine ends1 rfl (rv_tmp (v := .bool _) rfl) ?_
    exact ⟨by first | rfl | (simp [*]; (first | done | fail)), by (repeat (first | exact Same.refl _ _ | assumption | refine Same.push ?_ (by (first | exact Nat.le_refl _ | omega | (simp only [next_push, next_set, next_kill]; omega))) _ | refine Same.set ?_ (by (first | exact Nat.le_refl _ | omega | (simp only [next_push, next_set, next_kill]; omega))) _ | refine Same.kill ?_ (by (first | exact Nat.le_refl _ | omega | (simp only [next_push, next_set, next_kill]; omega)))))⟩
  · try simp only [decide_eq_true_eq, decide_eq_false_iff_not, Bool.not_eq_true', Bool.not_eq_false', Bool.and_eq_true, Bool.or_eq_true, Bool.and_eq_false_iff, Bool.or_eq_false_iff, beq_iff_eq, bne_iff_ne, beq_eq_false_iff_ne, bne_eq_false_iff_eq, ne_eq, Decidable.not_not, Bool.decide_eq_true] at h1_
    have hl1 : l.length ≤ 1048576 := by omega
    refine aw_skipT ?_
    refine aw_seq ?_
    refine aw_region ?_
    refine al_opd rfl rfl rfl (ao_loada Try.isAgg42 Try.sizeOf42 rfl (by ((repeat (first | exact blk_push_new _ _ | assumption | apply blk_push_old | apply blk_set_same | refine (blk_set_ne (by first | assumption | omega | (simp only [next_push, next_set, next_kill, ne_eq]; omega))).trans ?_ | refine (blk_kill_ne (by first | assumption | omega | (simp only [next_push, next_set, next_kill, ne_eq]; omega))).trans ?_)); (first | done | fail))) (by rfl) (by first | rfl | (simp; (first | done | fail)))) ?_
    refine al_opd rfl rfl rfl (ao_calld (toRoom_c (r := r)) Try.call31 rfl rfl) ?_
    first | refine al_opd rfl rfl rfl (ao_mv (v := .slice _ _ _) rfl) ?_ | refine al_opd rfl rfl rfl (ao_mv (v := v) rfl) ?_
    refine al_opd rfl rfl rfl (ao_calld (toFile_c (v := v) (l := l) (ha.mono (by (repeat (first | exact Same.refl _ _ | assumption | refine Same.push ?_ (by (first | exact Nat.le_refl _ | omega | (simp only [next_push, next_set, next_kill]; omega))) _ | refine Same.set ?_ (by (first | exact Nat.le_refl _ | omega | (simp only [next_push, next_set, next_kill]; omega))) _ | refine Same.kill ?_ (by (first | exact Nat.le_refl _ | omega | (simp only [next_push, next_set, next_kill]; omega))))))) (by omega)) Try.call19 rfl rfl) ?_
    refine al_opd rfl rfl rfl (ao_mv (v := .int _ _) rfl) ?_
    refine al_opd rfl rfl rfl (ao_calld (specCan2_c (l := l) (r := r) (by ((repeat (first | exact blk_push_new _ _ | assumption | apply blk_push_old | apply blk_set_same | refine (blk_set_ne (by first | assumption | omega | (simp only [next_push, next_set, next_kill, ne_eq]; omega))).trans ?_ | refine (blk_kill_ne (by first | assumption | omega | (simp only [next_push, next_set, next_kill, ne_eq]; omega))).trans ?_)); (first | done | fail))) (by omega) (by omega) hw hsp hv hk) Try.call47 rfl rfl) ?_
    refine al_opd rfl rfl rfl (ao_mv (v := .tuple _) rfl) ?_
    refine al_opd rfl rfl rfl (ao_extract (v := .bool _) rfl rfl) ?_
    refine al_opd rfl rfl rfl (ao_extract (v := .int _ _) rfl rfl) ?_
    refine al_opd rfl rfl rfl (ao_as (v := .bool _) rfl) ?_
    refine al_opd rfl rfl rfl (ao_as (v := .int _ _) rfl) ?_
    refine al_nilT ?_
    refine aw_seq ?_
    refine aw_region ?_
    first | refine al_opd rfl rfl rfl (ao_mv (v := .slice _ _ _) rfl) ?_ | refine al_opd rfl rfl rfl (ao_mv (v := v) rfl) ?_
    refine al_opd rfl rfl rfl (ao_calld (toFile_c (v := v) (l := l) (ha.mono (by (repeat (first | exact Same.refl _ _ | assumption | refine Same.push ?_ (by (first | exact Nat.le_refl _ | omega | (simp only [next_push, next_set, next_kill]; omega))) _ | refine Same.set ?_ (by (first | exact Nat.le_refl _ | omega | (simp only [next_push, next_set, next_kill]; omega))) _ | refine Same.kill ?_ (by (first | exact Nat.le_refl _ | omega | (simp only [next_push, next_set, next_kill]; omega))))))) (by omega)) Try.call19 rfl rfl) ?_
    first | refine al_opd rfl rfl rfl (ao_as (v := .slice _ _ _) rfl) ?_ | refine al_opd rfl rfl rfl (ao_as (v := v) rfl) ?_
    refine al_nilT ?_
    refine aw_seq ?_
    refine aw_region ?_
    refine al_opd rfl rfl rfl (ao_loada Try.isAgg42 Try.sizeOf42 rfl (by ((repeat (first | exact blk_push_new _ _ | assumption | apply blk_push_old | apply blk_set_same | refine (blk_set_ne (by first | assumption | omega | (simp only [next_push, next_set, next_kill, ne_eq]; omega))).trans ?_ | refine (blk_kill_ne (by first | assumption | omega | (simp only [next_push, next_set, next_kill, ne_eq]; omega))).trans ?_)); (first | done | fail))) (by rfl) (by first | rfl | (simp; (first | done | fail)))) ?_
    refine al_opd rfl rfl rfl (ao_calld (toRoom_c (r := r)) Try.call31 rfl rfl) ?_
    first | refine al_opd rfl rfl rfl (ao_mv (v := .slice _ _ _) rfl) ?_ | refine al_opd rfl rfl rfl (ao_mv (v := v) rfl) ?_
    refine al_opd rfl rfl rfl (ao_mv (v := .int _ _) rfl) ?_
    refine al_opd rfl rfl rfl (ao_calld (implCan2_c (l := l) (r := r) (by ((repeat (first | exact blk_push_new _ _ | assumption | apply blk_push_old | apply blk_set_same | refine (blk_set_ne (by first | assumption | omega | (simp only [next_push, next_set, next_kill, ne_eq]; omega))).trans ?_ | refine (blk_kill_ne (by first | assumption | omega | (simp only [next_push, next_set, next_kill, ne_eq]; omega))).trans ?_)); (first | done | fail))) (by omega) (by omega) hw hsp hv hk) Try.call48 rfl rfl) ?_
    refine al_opd rfl rfl rfl (ao_mv (v := .tuple _) rfl) ?_
    refine al_opd rfl rfl rfl (ao_extract (v := .bool _) rfl rfl) ?_
    refine al_opd rfl rfl rfl (ao_extract (v := .int _ _) rfl rfl) ?_
    refine al_opd rfl rfl rfl (ao_as (v := .bool _) rfl) ?_
    refine al_opd rfl rfl rfl (ao_as (v := .int _ _) rfl) ?_
    refine al_nilT ?_
    refine aw_seq ?_
    refine aw_seq ?_
    refine aw_region ?_
    refine al_opd rfl rfl rfl (ao_mv (v := .bool _) rfl) ?_
    refine al_opd rfl rfl rfl (ao_mv (v := .bool _) rfl) ?_
    refine al_opd rfl rfl rfl (ao_neB Try.underlying4 rfl rfl) ?_
    refine al_opd rfl rfl rfl (ao_mv (v := .bool _) rfl) ?_
    refine al_cases (d := 40) rfl (fun h2_ => ?_) (fun h2_ => ?_)
    · try simp only [decide_eq_true_eq, decide_eq_false_iff_not, Bool.not_eq_true', Bool.not_eq_false', Bool.and_eq_true, Bool.or_eq_true, Bool.and_eq_false_iff, Bool.or_eq_false_iff, beq_iff_eq, bne_iff_ne, beq_eq_false_iff_ne, bne_eq_false_iff_eq, ne_eq, Decidable.not_not, Bool.decide_eq_true] at h2_
      first | done | omega | (exfalso; revert h2_; simp; (first | done | omega))
    · try simp only [decide_eq_true_eq, decide_eq_false_iff_not, Bool.not_eq_true', Bool.not_eq_false', Bool.and_eq_true, Bool.or_eq_true, Bool.and_eq_false_iff, Bool.or_eq_false_iff, beq_iff_eq, bne_iff_ne, beq_eq_false_iff_ne, bne_eq_false_iff_eq, ne_eq, Decidable.not_not, Bool.decide_eq_true] at h2_
      refine al_gyes rfl rfl rfl rfl rfl (ao_mv (v := .int _ _) rfl) ?_
      refine al_gyes rfl rfl rfl rfl rfl (ao_mv (v := .int _ _) rfl) ?_
      refine al_gyes rfl rfl rfl rfl rfl (ao_neq rfl rfl) ?_
      refine al_opd rfl rfl rfl (ao_pickF rfl (v := .bool _) rfl) ?_
      refine al_nilT ?_
      refine aw_cond rfl (fun h3_ => ?_) (fun h3_ => ?_)
      · try simp only [decide_eq_true_eq, decide_eq_false_iff_not, Bool.not_eq_true', Bool.not_eq_false', Bool.and_eq_true, Bool.or_eq_true, Bool.and_eq_false_iff, Bool.or_eq_false_iff, beq_iff_eq, bne_iff_ne, beq_eq_false_iff_ne, bne_eq_false_iff_eq, ne_eq, Decidable.not_not, Bool.decide_eq_true] at h3_
        first | done | omega | (exfalso; revert h3_; simp; (first | done | omega))
      · try simp only [decide_eq_true_eq, decide_eq_false_iff_not, Bool.not_eq_true', Bool.not_eq_false', Bool.and_eq_true, Bool.or_eq_true, Bool.and_eq_false_iff, Bool.or_eq_false_iff, beq_iff_eq, bne_iff_ne, beq_eq_false_iff_ne, bne_eq_false_iff_eq, ne_eq, Decidable.not_not, Bool.decide_eq_true] at h3_
        refine aw_skipT ?_
        refine aw_seq ?_
        refine aw_seq ?_
        refine aw_region ?_
        first | refine al_opd rfl rfl rfl (ao_mv (v := .slice _ _ _) rfl) ?_ | refine al_opd rfl rfl rfl (ao_mv (v := v) rfl) ?_
        first | refine al_opd rfl rfl rfl (ao_mv (v := .slice _ _ _) rfl) ?_ | refine al_opd rfl rfl rfl (ao_mv (v := v) rfl) ?_
        refine al_opd rfl rfl rfl (ao_calld (toFile_c (v := v) (l := l) (ha.mono (by (repeat (first | exact Same.refl _ _ | assumption | refine Same.push ?_ (by (first | exact Nat.le_refl _ | omega | (simp only [next_push, next_set, next_kill]; omega))) _ | refine Same.set ?_ (by (first | exact Nat.le_refl _ | omega | (simp only [next_push, next_set, next_kill]; omega))) _ | refine Same.kill ?_ (by (first | exact Nat.le_refl _ | omega | (simp only [next_push, next_set, next_kill]; omega))))))) (by omega)) Try.call19 rfl rfl) ?_
        refine al_opd rfl rfl rfl (ao_calld (eqFile_c (l := l) (m := l) (Sl.full spot_len (by ((repeat (first | exact blk_push_new _ _ | assumption | apply blk_push_old | apply blk_set_same | refine (blk_set_ne (by first | assumption | omega | (simp only [next_push, next_set, next_kill, ne_eq]; omega))).trans ?_ | refine (blk_kill_ne (by first | assumption | omega | (simp only [next_push, next_set, next_kill, ne_eq]; omega))).trans ?_)); (first | done | fail))) rfl rfl rfl) (Sl.full spot_len (by ((repeat (first | exact blk_push_new _ _ | assumption | apply blk_push_old | apply blk_set_same | refine (blk_set_ne (by first | assumption | omega | (simp only [next_push, next_set, next_kill, ne_eq]; omega))).trans ?_ | refine (blk_kill_ne (by first | assumption | omega | (simp only [next_push, next_set, next_kill, ne_eq]; omega))).trans ?_)); (first | done | fail))) rfl rfl rfl) (by omega)) Try.call21 rfl rfl) ?_
        refine al_opd rfl rfl rfl (ao_not rfl) ?_
        refine al_nilT ?_
        refine aw_cond rfl (fun h4_ => ?_) (fun h4_ => ?_)
        · try simp only [decide_eq_true_eq, decide_eq_false_iff_not, Bool.not_eq_true', Bool.not_eq_false', Bool.and_eq_true, Bool.or_eq_true, Bool.and_eq_false_iff, Bool.or_eq_false_iff, beq_iff_eq, bne_iff_ne, beq_eq_false_iff_ne, bne_eq_false_iff_eq, ne_eq, Decidable.not_not, Bool.decide_eq_true] at h4_
          first | done | omega | (exfalso; revert h4_; simp; (first | done | omega))
        · try simp only [decide_eq_true_eq, decide_eq_false_iff_not, Bool.not_eq_true', Bool.not_eq_false', Bool.and_eq_true, Bool.or_eq_true, Bool.and_eq_false_iff, Bool.or_eq_false_iff, beq_iff_eq, bne_iff_ne, beq_eq_false_iff_ne, bne_eq_false_iff_eq, ne_eq, Decidable.not_not, Bool.decide_eq_true] at h4_
          refine aw_skipT ?_
          refine aw_seq ?_
          refine aw_region ?_
          refine al_opd rfl rfl rfl (ao_as (v := .bool _) rfl) ?_
          refine al_nilT ?_
          refine aw_ret ?_
          refine ends1 rfl (rv_tmp (v := .bool _) rfl) ?_
          exact ⟨by first | rfl | (simp [*]; (first | done | fail)), by (repeat (first | exact Same.refl _ _ | assumption | refine Same.push ?_ (by (first | exact Nat.le_refl _ | omega | (simp only [next_push, next_set, next_kill]; omega))) _ | refine Same.set ?_ (by (first | exact Nat.le_refl _ | omega | (simp only [next_push, next_set, next_kill]; omega))) _ | refine Same.kill ?_ (by (first | exact Nat.le_refl _ | omega | (simp only [next_push, next_set, next_kill]; omega)))))⟩

-- laws.FnExactCanMove
theorem lawCan0_c {r : Room} {v : Value} {l : List Spot} {k : Int} {H : AHeap} (hw : wfRoom r) (ha : Sl H spot 2 v l) (hl : l.length ≤ 9223372036854775807) (hsp : wfSpots l) (hv : ¬ okFile r l) : ACd Try.prog 13 [.agg (roomC r).toArray, v, .int .i64 k] H (.bool true) (H) := by
  refine ac_gc0 (fun β => VR.plainT β (by first | rfl | simp [plainT, plainV, plain1])) (ac_body Try.func13 rfl Try.ntmps13 rfl ?_)
  refine aw_seq ?_
  refine aw_region ?_
  refine al_opd rfl rfl rfl (ao_boxa (by rfl)) ?_
  refine al_opd rfl rfl rfl (ao_as (v := .bool _) rfl) ?_
  refine al_nilT ?_
  refine aw_seq ?_
  refine aw_region ?_
  refine al_opd rfl rfl rfl (ao_as (v := .int _ _) rfl) ?_
  refine al_nilT ?_
  refine aw_seq ?_
  refine aw_region ?_
  first | refine al_opd rfl rfl rfl (ao_mv (v := .slice _ _ _) rfl) ?_ | refine al_opd rfl rfl rfl (ao_mv (v := v) rfl) ?_
  refine al_opd rfl rfl rfl (ao_mv (v := .int _ _) rfl) ?_
  refine al_opd rfl rfl rfl (ao_calld (szFile_c (v := v) (l := l) (k := 1048576) (ha.mono (by (repeat (first | exact Same.refl _ _ | assumption | refine Same.push ?_ (by (first | exact Nat.le_refl _ | omega | (simp only [next_push, next_set, next_kill]; omega))) _ | refine Same.set ?_ (by (first | exact Nat.le_refl _ | omega | (simp only [next_push, next_set, next_kill]; omega))) _ | refine Same.kill ?_ (by (first | exact Nat.le_refl _ | omega | (simp only [next_push, next_set, next_kill]; omega))))))) hl (by omega)) Try.call17 rfl rfl) ?_
  refine al_opd rfl rfl rfl (ao_as (v := .int _ _) rfl) ?_
  refine al_nilT ?_
  refine aw_seq ?_
  refine aw_seq ?_
  refine aw_region ?_
  refine al_opd rfl rfl rfl (ao_mv (v := .int _ _) rfl) ?_
  refine al_opd rfl rfl rfl (ao_lss rfl rfl) ?_
  refine al_nilT ?_
  refine aw_cond rfl (fun h1_ => ?_) (fun h1_ => ?_)
  · try simp only [decide_eq_true_eq, decide_eq_false_iff_not, Bool.not_eq_true', Bool.not_eq_false', Bool.and_eq_true, Bool.or_eq_true, Bool.and_eq_false_iff, Bool.or_eq_false_iff, beq_iff_eq, bne_iff_ne, beq_eq_false_iff_ne, bne_eq_false_iff_eq, ne_eq, Decidable.not_not, Bool.decide_eq_true] at h1_
    refine aw_seq ?_
    refine aw_region ?_
    refine al_opd rfl rfl rfl (ao_as (v := .bool _) rfl) ?_
    refine al_nilT ?_
    refine aw_ret ?_
    refine thenA_r ?_
    refine ends1 rfl (rv_tmp (v := .bool _) rfl) ?_
    exact ⟨by first | rfl | (simp [*]; (first | done | fail)), by (repeat (first | exact Same.refl _ _ | assumption | refine Same.push ?_ (by (first | exact Nat.le_refl _ | omega | (simp only [next_push, next_set, next_kill]; omega))) _ | refine Same.set ?_ (by (first | exact Nat.le_refl _ | omega | (simp only [next_push, next_set, next_kill]; omega))) _ | refine Same.kill ?_ (by (first | exact Nat.le_refl _ | omega | (simp only [next_push, next_set, next_kill]; omega)))))⟩
  · try simp only [decide_eq_true_eq, decide_eq_false_iff_not, Bool.not_eq_true', Bool.not_eq_false', Bool.and_eq_true, Bool.or_eq_true, Bool.and_eq_false_iff, Bool.or_eq_false_iff, beq_iff_eq, bne_iff_ne, beq_eq_false_iff_ne, bne_eq_false_iff_eq, ne_eq, Decidable.not_not, Bool.decide_eq_true] at h1_
    have hl1 : l.length ≤ 1048576 := by omega
    refine aw_skipT ?_
    refine aw_seq ?_
    refine aw_region ?_
    refine al_opd rfl rfl rfl (ao_loada Try.isAgg42 Try.sizeOf42 rfl (by ((repeat (first | exact blk_push_new _ _ | assumption | apply blk_push_old | apply blk_set_same | refine (blk_set_ne (by first | assumption | omega | (simp only [next_push, next_set, next_kill, ne_eq]; omega))).trans ?_ | refine (blk_kill_ne (by first | assumption | omega | (simp only [next_push, next_set, next_kill, ne_eq]; omega))).trans ?_)); (first | done | fail))) (by rfl) (by first | rfl | (simp; (first | done | fail)))) ?_
    refine al_opd rfl rfl rfl (ao_calld (toRoom_c (r := r)) Try.call31 rfl rfl) ?_
    first | refine al_opd rfl rfl rfl (ao_mv (v := .slice _ _ _) rfl) ?_ | refine al_opd rfl rfl rfl (ao_mv (v := v) rfl) ?_
    refine al_opd rfl rfl rfl (ao_calld (toFile_c (v := v) (l := l) (ha.mono (by (repeat (first | exact Same.refl _ _ | assumption | refine Same.push ?_ (by (first | exact Nat.le_refl _ | omega | (simp only [next_push, next_set, next_kill]; omega))) _ | refine Same.set ?_ (by (first | exact Nat.le_refl _ | omega | (simp only [next_push, next_set, next_kill]; omega))) _ | refine Same.kill ?_ (by (first | exact Nat.le_refl _ | omega | (simp only [next_push, next_set, next_kill]; omega))))))) (by omega)) Try.call19 rfl rfl) ?_
    refine al_opd rfl rfl rfl (ao_mv (v := .int _ _) rfl) ?_
    refine al_opd rfl rfl rfl (ao_calld (specCan0_c (l := l) (r := r) (by ((repeat (first | exact blk_push_new _ _ | assumption | apply blk_push_old | apply blk_set_same | refine (blk_set_ne (by first | assumption | omega | (simp only [next_push, next_set, next_kill, ne_eq]; omega))).trans ?_ | refine (blk_kill_ne (by first | assumption | omega | (simp only [next_push, next_set, next_kill, ne_eq]; omega))).trans ?_)); (first | done | fail))) (by omega) (by omega) hw hsp hv) Try.call47 rfl rfl) ?_
    refine al_opd rfl rfl rfl (ao_mv (v := .tuple _) rfl) ?_
    refine al_opd rfl rfl rfl (ao_extract (v := .bool _) rfl rfl) ?_
    refine al_opd rfl rfl rfl (ao_extract (v := .int _ _) rfl rfl) ?_
    refine al_opd rfl rfl rfl (ao_as (v := .bool _) rfl) ?_
    refine al_opd rfl rfl rfl (ao_as (v := .int _ _) rfl) ?_
    refine al_nilT ?_
    refine aw_seq ?_
    refine aw_region ?_
    first | refine al_opd rfl rfl rfl (ao_mv (v := .slice _ _ _) rfl) ?_ | refine al_opd rfl rfl rfl (ao_mv (v := v) rfl) ?_
    refine al_opd rfl rfl rfl (ao_calld (toFile_c (v := v) (l := l) (ha.mono (by (repeat (first | exact Same.refl _ _ | assumption | refine Same.push ?_ (by (first | exact Nat.le_refl _ | omega | (simp only [next_push, next_set, next_kill]; omega))) _ | refine Same.set ?_ (by (first | exact Nat.le_refl _ | omega | (simp only [next_push, next_set, next_kill]; omega))) _ | refine Same.kill ?_ (by (first | exact Nat.le_refl _ | omega | (simp only [next_push, next_set, next_kill]; omega))))))) (by omega)) Try.call19 rfl rfl) ?_
    first | refine al_opd rfl rfl rfl (ao_as (v := .slice _ _ _) rfl) ?_ | refine al_opd rfl rfl rfl (ao_as (v := v) rfl) ?_
    refine al_nilT ?_
    refine aw_seq ?_
    refine aw_region ?_
    refine al_opd rfl rfl rfl (ao_loada Try.isAgg42 Try.sizeOf42 rfl (by ((repeat (first | exact blk_push_new _ _ | assumption | apply blk_push_old | apply blk_set_same | refine (blk_set_ne (by first | assumption | omega | (simp only [next_push, next_set, next_kill, ne_eq]; omega))).trans ?_ | refine (blk_kill_ne (by first | assumption | omega | (simp only [next_push, next_set, next_kill, ne_eq]; omega))).trans ?_)); (first | done | fail))) (by rfl) (by first | rfl | (simp; (first | done | fail)))) ?_
    refine al_opd rfl rfl rfl (ao_calld (toRoom_c (r := r)) Try.call31 rfl rfl) ?_
    first | refine al_opd rfl rfl rfl (ao_mv (v := .slice _ _ _) rfl) ?_ | refine al_opd rfl rfl rfl (ao_mv (v := v) rfl) ?_
    refine al_opd rfl rfl rfl (ao_mv (v := .int _ _) rfl) ?_
    refine al_opd rfl rfl rfl (ao_calld (implCan0_c (l := l) (r := r) (by ((repeat (first | exact blk_push_new _ _ | assumption | apply blk_push_old | apply blk_set_same | refine (blk_set_ne (by first | assumption | omega | (simp only [next_push, next_set, next_kill, ne_eq]; omega))).trans ?_ | refine (blk_kill_ne (by first | assumption | omega | (simp only [next_push, next_set, next_kill, ne_eq]; omega))).trans ?_)); (first | done | fail))) (by omega) (by omega) hw hsp hv) Try.call48 rfl rfl) ?_
    refine al_opd rfl rfl rfl (ao_mv (v := .tuple _) rfl) ?_
    refine al_opd rfl rfl rfl (ao_extract (v := .bool _) rfl rfl) ?_
    refine al_opd rfl rfl rfl (ao_extract (v := .int _ _) rfl rfl) ?_
    refine al_opd rfl rfl rfl (ao_as (v := .bool _) rfl) ?_
    refine al_opd rfl rfl rfl (ao_as (v := .int _ _) rfl) ?_
    refine al_nilT ?_
    refine aw_seq ?_
    refine aw_seq ?_
    refine aw_region ?_
    refine al_opd rfl rfl rfl (ao_mv (v := .bool _) rfl) ?_
    refine al_opd rfl rfl rfl (ao_mv (v := .bool _) rfl) ?_
    refine al_opd rfl rfl rfl (ao_neB Try.underlying4 rfl rfl) ?_
    refine al_opd rfl rfl rfl (ao_mv (v := .bool _) rfl) ?_
    refine al_cases (d := 40) rfl (fun h2_ => ?_) (fun h2_ => ?_)
    · try simp only [decide_eq_true_eq, decide_eq_false_iff_not, Bool.not_eq_true', Bool.not_eq_false', Bool.and_eq_true, Bool.or_eq_true, Bool.and_eq_false_iff, Bool.or_eq_false_iff, beq_iff_eq, bne_iff_ne, beq_eq_false_iff_ne, bne_eq_false_iff_eq, ne_eq, Decidable.not_not, Bool.decide_eq_true] at h2_
      first | done | omega | (exfalso; revert h2_; simp; (first | done | omega))
    · try simp only [decide_eq_true_eq, decide_eq_false_iff_not, Bool.not_eq_true', Bool.not_eq_false', Bool.and_eq_true, Bool.or_eq_true, Bool.and_eq_false_iff, Bool.or_eq_false_iff, beq_iff_eq, bne_iff_ne, beq_eq_false_iff_ne, bne_eq_false_iff_eq, ne_eq, Decidable.not_not, Bool.decide_eq_true] at h2_
      refine al_gyes rfl rfl rfl rfl rfl (ao_mv (v := .int _ _) rfl) ?_
      refine al_gyes rfl rfl rfl rfl rfl (ao_mv (v := .int _ _) rfl) ?_
      refine al_gyes rfl rfl rfl rfl rfl (ao_neq rfl rfl) ?_
      refine al_opd rfl rfl rfl (ao_pickF rfl (v := .bool _) rfl) ?_
      refine al_nilT ?_
      refine aw_cond rfl (fun h3_ => ?_) (fun h3_ => ?_)
      · try simp only [decide_eq_true_eq, decide_eq_false_iff_not, Bool.not_eq_true', Bool.not_eq_false', Bool.and_eq_true, Bool.or_eq_true, Bool.and_eq_false_iff, Bool.or_eq_false_iff, beq_iff_eq, bne_iff_ne, beq_eq_false_iff_ne, bne_eq_false_iff_eq, ne_eq, Decidable.not_not, Bool.decide_eq_true] at h3_
        first | done | omega | (exfalso; revert h3_; simp; (first | done | omega))
      · try simp only [decide_eq_true_eq, decide_eq_false_iff_not, Bool.not_eq_true', Bool.not_eq_false', Bool.and_eq_true, Bool.or_eq_true, Bool.and_eq_false_iff, Bool.or_eq_false_iff, beq_iff_eq, bne_iff_ne, beq_eq_false_iff_ne, bne_eq_false_iff_eq, ne_eq, Decidable.not_not, Bool.decide_eq_true] at h3_
        refine aw_skipT ?_
        refine aw_seq ?_
        refine aw_seq ?_
        refine aw_region ?_
        first | refine al_opd rfl rfl rfl (ao_mv (v := .slice _ _ _) rfl) ?_ | refine al_opd rfl rfl rfl (ao_mv (v := v) rfl) ?_
        first | refine al_opd rfl rfl rfl (ao_mv (v := .slice _ _ _) rfl) ?_ | refine al_opd rfl rfl rfl (ao_mv (v := v) rfl) ?_
        refine al_opd rfl rfl rfl (ao_calld (toFile_c (v := v) (l := l) (ha.mono (by (repeat (first | exact Same.refl _ _ | assumption | refine Same.push ?_ (by (first | exact Nat.le_refl _ | omega | (simp only [next_push, next_set, next_kill]; omega))) _ | refine Same.set ?_ (by (first | exact Nat.le_refl _ | omega | (simp only [next_push, next_set, next_kill]; omega))) _ | refine Same.kill ?_ (by (first | exact Nat.le_refl _ | omega | (simp only [next_push, next_set, next_kill]; omega))))))) (by omega)) Try.call19 rfl rfl) ?_
        refine al_opd rfl rfl rfl (ao_calld (eqFile_c (l := l) (m := l) (Sl.full spot_len (by ((repeat (first | exact blk_push_new _ _ | assumption | apply blk_push_old | apply blk_set_same | refine (blk_set_ne (by first | assumption | omega | (simp only [next_push, next_set, next_kill, ne_eq]; omega))).trans ?_ | refine (blk_kill_ne (by first | assumption | omega | (simp only [next_push, next_set, next_kill, ne_eq]; omega))).trans ?_)); (first | done | fail))) rfl rfl rfl) (Sl.full spot_len (by ((repeat (first | exact blk_push_new _ _ | assumption | apply blk_push_old | apply blk_set_same | refine (blk_set_ne (by first | assumption | omega | (simp only [next_push, next_set, next_kill, ne_eq]; omega))).trans ?_ | refine (blk_kill_ne (by first | assumption | omega | (simp only [next_push, next_set, next_kill, ne_eq]; omega))).trans ?_)); (first | done | fail))) rfl rfl rfl) (by omega)) Try.call21 rfl rfl) ?_
        refine al_opd rfl rfl rfl (ao_not rfl) ?_
        refine al_nilT ?_
        refine aw_cond rfl (fun h4_ => ?_) (fun h4_ => ?_)
        · try simp only [decide_eq_true_eq, decide_eq_false_iff_not, Bool.not_eq_true', Bool.not_eq_false', Bool.and_eq_true, Bool.or_eq_true, Bool.and_eq_false_iff, Bool.or_eq_false_iff, beq_iff_eq, bne_iff_ne, beq_eq_false_iff_ne, bne_eq_false_iff_eq, ne_eq, Decidable.not_not, Bool.decide_eq_true] at h4_
          first | done | omega | (exfalso; revert h4_; simp; (first | done | omega))
        · try simp only [decide_eq_true_eq, decide_eq_false_iff_not, Bool.not_eq_true', Bool.not_eq_false', Bool.and_eq_true, Bool.or_eq_true, Bool.and_eq_false_iff, Bool.or_eq_false_iff, beq_iff_eq, bne_iff_ne, beq_eq_false_iff_ne, bne_eq_false_iff_eq, ne_eq, Decidable.not_not, Bool.decide_eq_true] at h4_
          refine aw_skipT ?_
          refine aw_seq ?_
          refine aw_region ?_
          refine al_opd rfl rfl rfl (ao_as (v := .bool _) rfl) ?_
          refine al_nilT ?_
          refine aw_ret ?_
          refine ends1 rfl (rv_tmp (v := .bool _) rfl) ?_
          exact ⟨by first | rfl | (simp [*]; (first | done | fail)), by (repeat (first | exact Same.refl _ _ | assumption | refine Same.push ?_ (by (first | exact Nat.le_refl _ | omega | (simp only [next_push, next_set, next_kill]; omega))) _ | refine Same.set ?_ (by (first | exact Nat.le_refl _ | omega | (simp only [next_push, next_set, next_kill]; omega))) _ | refine Same.kill ?_ (by (first | exact Nat.le_refl _ | omega | (simp only [next_push, next_set, next_kill]; omega)))))⟩

theorem lawCan_c {r : Room} {v : Value} {l : List Spot} {k : Int} {H : AHeap} (hw : wfRoom r) (ha : Sl H spot 2 v l) (hl : l.length ≤ 9223372036854775807) (hsp : wfSpots l) : ACd Try.prog 13 [.agg (roomC r).toArray, v, .int .i64 k] H (.bool true) H := by
  by_cases hv : okFile r l
  · by_cases hk : 0 ≤ k ∧ k ≤ 5
    · exact lawCan1_c hw ha hl hsp hv hk
    · exact lawCan2_c hw ha hl hsp hv hk
  · exact lawCan0_c hw ha hl hsp hv

end Go.Proofs.Ytokgcdacdmllbaa
