/- Contracts of the program's functions over abstract heaps. -/
import Derived.Test.YtohaokdgokknaaaLaws
import Derived.Test.YtohaokdgokknaaaOk
import Derived.Test.YtohaokdgokknaaaVh
import Derived.Test.YtohaokdgokknaaaCnt
namespace Go.Proofs.Ytohaokdgokknaaa
open Go Go.AW Go.Proofs
set_option linter.unusedVariables false
set_option linter.unusedSimpArgs false
set_option maxRecDepth 100000
set_option maxHeartbeats 2000000

-- spec.FirstFault
theorem specFault1_c {L : Int} {v : Value} {ks : List Int} {hs : List Hold} {lb c : Nat} {y : Value} {sd : List Said} {r : Int} {H : AHeap} (ha0 : Sl H i16 1 v ks) (hk0 : H.blk lb = some (.cells (fl hold hs) 2)) (hcc : hs.length ≤ c) (hlen : ks.length ≤ 4194304) (hn : hs.length ≤ 4194304) (hL : -32768 ≤ L ∧ L ≤ 32767) (hw : holdOk hs) (hy0 : Sl H said 2 y sd) (hd : sd.length ≤ 4194304) (hv : okRope L ks ∧ okHolds ks.length hs) (hr : firstAt (faultAt hs sd) hs.length r) : ACd Try.prog 57 [.agg #[.int .i16 L, v], .slice (some ⟨lb, 0, none⟩) hs.length c, y] H (faultV hs.length sd.length r) (H) := by
  have hh0 : Sl H hold 2 (.slice (some ⟨lb, 0, none⟩) hs.length c) hs := Sl.full hold_len hk0 rfl rfl rfl
  have hlt0 := AHeap.lt hk0
  have ⟨v1, v2, v3, v4, v5, v6, v7⟩ := hv.1
  have hln := okHolds_len hv.2
  refine ac_gc0 (fun β => VR.plainT β (by first | rfl | simp [plainT, plainV, plain1])) (ac_body Try.func57 rfl Try.ntmps57 rfl ?_)
  refine aw_seq ?_
  refine aw_region ?_
  refine al_opd rfl rfl rfl (ao_boxa (by rfl)) ?_
  refine al_opd rfl rfl rfl (ao_as (v := .int _ _) rfl) ?_
  refine al_opd rfl rfl rfl (ao_as (v := .int _ _) rfl) ?_
  refine al_nilT ?_
  refine aw_seq ?_
  refine aw_seq ?_
  refine aw_region ?_
  first | refine al_opd rfl rfl rfl (ao_mv (v := .slice _ _ _) rfl) ?_ | refine al_opd rfl rfl rfl (ao_mv (v := v) rfl) ?_ | refine al_opd rfl rfl rfl (ao_mv (v := y) rfl) ?_
  refine al_opd rfl rfl rfl (ao_calld (l03Holds_c (L := L) (v := v) (ks := ks) (hs := hs) (b := true) (ha0.mono (by (repeat (first | exact Same.refl _ _ | assumption | refine Same.push ?_ (by (first | exact Nat.le_refl _ | omega | (simp only [next_push, next_set, next_kill]; omega))) _ | refine Same.set ?_ (by (first | exact Nat.le_refl _ | omega | (simp only [next_push, next_set, next_kill]; omega))) _ | refine Same.kill ?_ (by (first | exact Nat.le_refl _ | omega | (simp only [next_push, next_set, next_kill]; omega))))))) (hh0.mono (by (repeat (first | exact Same.refl _ _ | assumption | refine Same.push ?_ (by (first | exact Nat.le_refl _ | omega | (simp only [next_push, next_set, next_kill]; omega))) _ | refine Same.set ?_ (by (first | exact Nat.le_refl _ | omega | (simp only [next_push, next_set, next_kill]; omega))) _ | refine Same.kill ?_ (by (first | exact Nat.le_refl _ | omega | (simp only [next_push, next_set, next_kill]; omega))))))) (by ((repeat (first | exact blk_push_new _ _ | assumption | apply blk_push_old | apply blk_set_same | refine (blk_set_ne (by first | assumption | omega | (simp only [next_push, next_set, next_kill, ne_eq]; omega))).trans ?_ | refine (blk_kill_ne (by first | assumption | omega | (simp only [next_push, next_set, next_kill, ne_eq]; omega))).trans ?_)); (first | done | fail))) hlen hn hL hw (yes hv)) Try.call84 rfl rfl) ?_
  refine al_opd rfl rfl rfl (ao_not rfl) ?_
  refine al_nilT ?_
  refine aw_cond rfl (fun h1_ => ?_) (fun h1_ => ?_)
  · try simp only [decide_eq_true_eq, decide_eq_false_iff_not, Bool.not_eq_true', Bool.not_eq_false', Bool.and_eq_true, Bool.or_eq_true, Bool.and_eq_false_iff, Bool.or_eq_false_iff, beq_iff_eq, bne_iff_ne, beq_eq_false_iff_ne, bne_eq_false_iff_eq, ne_eq, Decidable.not_not, Bool.decide_eq_true] at h1_
    first | done | omega | (exfalso; revert h1_; simp; (first | done | omega))
  · try simp only [decide_eq_true_eq, decide_eq_false_iff_not, Bool.not_eq_true', Bool.not_eq_false', Bool.and_eq_true, Bool.or_eq_true, Bool.and_eq_false_iff, Bool.or_eq_false_iff, beq_iff_eq, bne_iff_ne, beq_eq_false_iff_ne, bne_eq_false_iff_eq, ne_eq, Decidable.not_not, Bool.decide_eq_true] at h1_
    refine aw_skipT ?_
    refine aw_seq ?_
    refine aw_region ?_
    refine al_opd rfl rfl rfl (ao_build (A := #[.int _ _, .int _ _]) Try.zeroValue101 (by rfl) (by first | rfl | kernel_rfl) (by rfl) (by first | rfl | kernel_rfl)) ?_
    refine al_opd rfl rfl rfl (ao_alloca (zv101) (by rfl)) ?_
    first | refine al_opd rfl rfl rfl ((ao_storeL Try.sizeOf101 (by rfl) (by rfl) (by ((repeat (first | exact blk_push_new _ _ | assumption | apply blk_push_old | apply blk_set_same | refine (blk_set_ne (by first | assumption | omega | (simp only [next_push, next_set, next_kill, ne_eq]; omega))).trans ?_ | refine (blk_kill_ne (by first | assumption | omega | (simp only [next_push, next_set, next_kill, ne_eq]; omega))).trans ?_)); (first | done | fail))) (by first | rfl | (simp; (first | done | fail))) (by first | rfl | (simp; (first | done | fail))) (by first | rfl | (simp; (first | done | fail)))).to (SetR.eq (by (repeat (first | exact SetR.new | exact SetR.same | (apply SetR.old; · exact ⟨_, by ((repeat (first | exact blk_push_new _ _ | assumption | apply blk_push_old | apply blk_set_same | refine (blk_set_ne (by first | assumption | omega | (simp only [next_push, next_set, next_kill, ne_eq]; omega))).trans ?_ | refine (blk_kill_ne (by first | assumption | omega | (simp only [next_push, next_set, next_kill, ne_eq]; omega))).trans ?_)); (first | done | fail))⟩) | exact SetR.base))))) ?_ | refine al_opd rfl rfl rfl ((ao_storeP (ds := [.int _ _, .int _ _]) Try.sizeOf101 (by rfl) (by rfl) (by ((repeat (first | exact blk_push_new _ _ | assumption | apply blk_push_old | apply blk_set_same | refine (blk_set_ne (by first | assumption | omega | (simp only [next_push, next_set, next_kill, ne_eq]; omega))).trans ?_ | refine (blk_kill_ne (by first | assumption | omega | (simp only [next_push, next_set, next_kill, ne_eq]; omega))).trans ?_)); (first | done | fail))) (by first | rfl | (simp; (first | done | fail))) (by first | rfl | (simp; (first | done | fail))) (by first | decide | (simp; (first | done | fail)) | (simp; omega))).to (SetR.eq (by (repeat (first | exact SetR.new | exact SetR.same | (apply SetR.old; · exact ⟨_, by ((repeat (first | exact blk_push_new _ _ | assumption | apply blk_push_old | apply blk_set_same | refine (blk_set_ne (by first | assumption | omega | (simp only [next_push, next_set, next_kill, ne_eq]; omega))).trans ?_ | refine (blk_kill_ne (by first | assumption | omega | (simp only [next_push, next_set, next_kill, ne_eq]; omega))).trans ?_)); (first | done | fail))⟩) | exact SetR.base))))) ?_
    refine al_nilT ?_
    refine aw_seq ?_
    refine aw_seq ?_
    refine aw_region ?_
    refine al_opd rfl rfl rfl (ao_as (v := .int _ _) rfl) ?_
    refine al_nilT ?_
    refine aw_block ?_
    refine aw_loop (fun (gk : Nat) (fr : AFr) (G : AHeap) => ∃ get : Nat → Value, fr = ⟨50, get⟩ ∧ (∃ i : Nat, i ≤ hs.length ∧ gk = hs.length - i ∧ Same H.next H G ∧ H.next + 2 ≤ G.next ∧ G.blk (H.next + 1) = some (.cells [.int .i64 (countS hs i).number, .int .i64 (countS hs i).check] 1) ∧ (∀ j, j < i → ¬ faultAt hs sd j) ∧ get 1 = .slice (some ⟨lb, 0, none⟩) hs.length c ∧ get 2 = y ∧ get 8 = .pointer (some ⟨H.next + 1, 0, none⟩) ∧ get 9 = .int .i64 i)) (hs.length) ⟨_, rfl, ?_⟩ ?_
    · exact ⟨0, Nat.zero_le _, rfl, by (repeat (first | exact Same.refl _ _ | assumption | refine Same.push ?_ (by (first | exact Nat.le_refl _ | omega | (simp only [next_push, next_set, next_kill]; omega))) _ | refine Same.set ?_ (by (first | exact Nat.le_refl _ | omega | (simp only [next_push, next_set, next_kill]; omega))) _ | refine Same.kill ?_ (by (first | exact Nat.le_refl _ | omega | (simp only [next_push, next_set, next_kill]; omega))))), by (first | exact Nat.le_refl _ | omega | (simp only [next_push, next_set, next_kill]; omega)), by ((repeat (first | exact blk_push_new _ _ | assumption | apply blk_push_old | apply blk_set_same | refine (blk_set_ne (by first | assumption | omega | (simp only [next_push, next_set, next_kill, ne_eq]; omega))).trans ?_ | refine (blk_kill_ne (by first | assumption | omega | (simp only [next_push, next_set, next_kill, ne_eq]; omega))).trans ?_)); (first | done | fail)), fun j h => by omega, rfl, rfl, rfl, rfl⟩
    · rintro gk fr G ⟨get, rfl, i, hi, rfl, hG, hnx, hkc, hm, g1, g2, g8, g9⟩
      have hh : Sl G hold 2 (.slice (some ⟨lb, 0, none⟩) hs.length c) hs := hh0.mono hG
      have hy : Sl G said 2 y sd := hy0.mono hG
      have hcb := countS_bnd hs i (by omega)
      have hcn := countS_num hs i
      refine aw_slot (d := 1) (v := .slice (some ⟨lb, 0, none⟩) hs.length c) (by first | assumption | rfl) ?_
      refine aw_slot (d := 2) (v := y) (by first | assumption | rfl) ?_
      refine aw_slot (d := 8) (v := .pointer (some ⟨H.next + 1, 0, none⟩)) (by first | assumption | rfl) ?_
      refine aw_slot (d := 9) (v := .int .i64 i) (by first | assumption | rfl) ?_
      refine aw_seq ?_
      refine aw_seq ?_
      refine aw_region ?_
      refine al_opd rfl rfl rfl (ao_mv (v := .int _ _) rfl) ?_
      first | refine al_opd rfl rfl rfl (ao_mv (v := .slice _ _ _) rfl) ?_ | refine al_opd rfl rfl rfl (ao_mv (v := v) rfl) ?_ | refine al_opd rfl rfl rfl (ao_mv (v := y) rfl) ?_
      first | refine al_opd rfl rfl rfl (ao_lenS Try.underlying28 (by rfl)) ?_ | refine al_opd rfl rfl rfl (ao_lenN Try.underlying28 (by rfl)) ?_ | refine al_opd rfl rfl rfl (ao_lenV Try.underlying28 rfl hh) ?_ | refine al_opd rfl rfl rfl (ao_lenV Try.underlying28 rfl hy) ?_
      refine al_opd rfl rfl rfl (ao_lss rfl rfl) ?_
      refine al_nilT ?_
      refine aw_cond rfl (fun h2_ => ?_) (fun h2_ => ?_)
      · try simp only [decide_eq_true_eq, decide_eq_false_iff_not, Bool.not_eq_true', Bool.not_eq_false', Bool.and_eq_true, Bool.or_eq_true, Bool.and_eq_false_iff, Bool.or_eq_false_iff, beq_iff_eq, bne_iff_ne, beq_eq_false_iff_ne, bne_eq_false_iff_eq, ne_eq, Decidable.not_not, Bool.decide_eq_true] at h2_
        obtain ⟨x, hx⟩ := get_lt (show i < hs.length by omega)
        have hwx : 0 ≤ x.who ∧ x.who ≤ 999 := by have := (hv.2 i x hx).1; unfold inRange at this; omega
        refine aw_skipT ?_
        refine aw_seq ?_
        refine aw_block ?_
        refine aw_seq ?_
        refine aw_seq ?_
        refine aw_draw (m := 18) mo (by kernel_rfl) rfl ?_
        refine dw_opd rfl rfl rfl (ao_mv (v := .int _ _) rfl) ?_
        first | refine dw_opd rfl rfl rfl (ao_mv (v := .slice _ _ _) rfl) ?_ | refine dw_opd rfl rfl rfl (ao_mv (v := v) rfl) ?_ | refine dw_opd rfl rfl rfl (ao_mv (v := y) rfl) ?_
        first | refine dw_opd rfl rfl rfl (ao_lenS Try.underlying67 (by rfl)) ?_ | refine dw_opd rfl rfl rfl (ao_lenN Try.underlying67 (by rfl)) ?_ | refine dw_opd rfl rfl rfl (ao_lenV Try.underlying67 rfl hh) ?_ | refine dw_opd rfl rfl rfl (ao_lenV Try.underlying67 rfl hy) ?_
        refine dw_opd rfl rfl rfl (ao_geq rfl rfl) ?_
        refine dw_opd rfl rfl rfl (ao_mv (v := .bool _) rfl) ?_
        refine dw_cases (d := 24) rfl (fun h3_ => ?_) (fun h3_ => ?_)
        · try simp only [decide_eq_true_eq, decide_eq_false_iff_not, Bool.not_eq_true', Bool.not_eq_false', Bool.and_eq_true, Bool.or_eq_true, Bool.and_eq_false_iff, Bool.or_eq_false_iff, beq_iff_eq, bne_iff_ne, beq_eq_false_iff_ne, bne_eq_false_iff_eq, ne_eq, Decidable.not_not, Bool.decide_eq_true] at h3_
          refine dw_gno rfl rfl rfl rfl rfl rfl ?_
          refine dw_gno rfl rfl rfl rfl rfl rfl ?_
          refine dw_gno rfl rfl rfl rfl rfl rfl ?_
          refine dw_gno rfl rfl rfl rfl rfl rfl ?_
          refine dw_gno rfl rfl rfl rfl rfl rfl ?_
          refine dw_gno rfl rfl rfl rfl rfl rfl ?_
          refine dw_gno rfl rfl rfl rfl rfl rfl ?_
          refine dw_gno rfl rfl rfl rfl rfl rfl ?_
          refine dw_gno rfl rfl rfl rfl rfl rfl ?_
          refine dw_gno rfl rfl rfl rfl rfl rfl ?_
          refine dw_gno rfl rfl rfl rfl rfl rfl ?_
          refine dw_gno rfl rfl rfl rfl rfl rfl ?_
          refine dw_opd rfl rfl rfl (ao_pickT rfl (v := .bool _) rfl) ?_
          refine dw_end ?_
          refine al_nilT ?_
          refine aw_condT (by rfl) ⟨_, rfl⟩ ?_
          refine aw_seq ?_
          refine aw_region ?_
          refine al_opd rfl rfl rfl (ao_mv (v := .int _ _) rfl) ?_
          refine al_opd rfl rfl rfl (ao_as (v := .int _ _) rfl) ?_
          refine al_opd rfl rfl rfl (ao_as (v := .int _ _) rfl) ?_
          refine al_nilT ?_
          refine aw_ret ?_
          refine thenA_r ?_
          refine blockA_r ?_
          refine thenA_r ?_
          refine thenA_r ?_
          refine blockA_r ?_
          refine thenA_r ?_
          refine ends2 rfl (rv_tmp (v := .int _ _) rfl) (rv_tmp (v := .int _ _) rfl) ?_
          exact ⟨faultV_hit (firstAt_hit hr (by omega) (fun e => by have := (List.getElem?_eq_some_iff.mp e).1; omega) hm), by (repeat (first | exact Same.refl _ _ | assumption | refine Same.push ?_ (by (first | exact Nat.le_refl _ | omega | (simp only [next_push, next_set, next_kill]; omega))) _ | refine Same.set ?_ (by (first | exact Nat.le_refl _ | omega | (simp only [next_push, next_set, next_kill]; omega))) _ | refine Same.kill ?_ (by (first | exact Nat.le_refl _ | omega | (simp only [next_push, next_set, next_kill]; omega)))))⟩
        · try simp only [decide_eq_true_eq, decide_eq_false_iff_not, Bool.not_eq_true', Bool.not_eq_false', Bool.and_eq_true, Bool.or_eq_true, Bool.and_eq_false_iff, Bool.or_eq_false_iff, beq_iff_eq, bne_iff_ne, beq_eq_false_iff_ne, bne_eq_false_iff_eq, ne_eq, Decidable.not_not, Bool.decide_eq_true] at h3_
          obtain ⟨z, hz⟩ := get_lt (show i < sd.length by omega)
          first | refine dw_gyes rfl rfl rfl rfl rfl (ao_loada Try.isAgg101 Try.sizeOf101 rfl (by ((repeat (first | exact blk_push_new _ _ | assumption | apply blk_push_old | apply blk_set_same | refine (blk_set_ne (by first | assumption | omega | (simp only [next_push, next_set, next_kill, ne_eq]; omega))).trans ?_ | refine (blk_kill_ne (by first | assumption | omega | (simp only [next_push, next_set, next_kill, ne_eq]; omega))).trans ?_)); (first | done | fail))) (by rfl) (by first | rfl | (simp; (first | done | fail)))) ?_ | refine dw_gyes rfl rfl rfl rfl rfl (ao_loadsV (A := #[.int _ _, .int _ _]) Try.isAgg101 Try.sizeOf101 hh rfl hx rfl (by decide)) ?_ | refine dw_gyes rfl rfl rfl rfl rfl (ao_loadsV (A := #[.int _ _, .int _ _]) Try.isAgg101 Try.sizeOf101 hh rfl hz rfl (by decide)) ?_ | refine dw_gyes rfl rfl rfl rfl rfl (ao_loadsV (A := #[.int _ _, .int _ _]) Try.isAgg101 Try.sizeOf101 hy rfl hx rfl (by decide)) ?_ | refine dw_gyes rfl rfl rfl rfl rfl (ao_loadsV (A := #[.int _ _, .int _ _]) Try.isAgg101 Try.sizeOf101 hy rfl hz rfl (by decide)) ?_
          first | refine dw_gyes rfl rfl rfl rfl rfl (ao_mv (v := .slice _ _ _) rfl) ?_ | refine dw_gyes rfl rfl rfl rfl rfl (ao_mv (v := v) rfl) ?_ | refine dw_gyes rfl rfl rfl rfl rfl (ao_mv (v := y) rfl) ?_
          refine dw_gyes rfl rfl rfl rfl rfl (ao_mv (v := .int _ _) rfl) ?_
          first | refine dw_gyes rfl rfl rfl rfl rfl (ao_indexAddrS Try.underlying67 Try.sizeOf101 rfl rfl (by first | omega | decide | (simp; omega)) (by first | omega | decide | (simp; omega))) ?_ | refine dw_gyes rfl rfl rfl rfl rfl (ao_indexV Try.underlying67 Try.sizeOf101 rfl rfl hh (by first | omega | decide | (simp; omega)) (by first | omega | decide | (simp; omega))) ?_ | refine dw_gyes rfl rfl rfl rfl rfl (ao_indexV Try.underlying67 Try.sizeOf101 rfl rfl hy (by first | omega | decide | (simp; omega)) (by first | omega | decide | (simp; omega))) ?_
          first | refine dw_gyes rfl rfl rfl rfl rfl (ao_loada Try.isAgg101 Try.sizeOf101 rfl (by ((repeat (first | exact blk_push_new _ _ | assumption | apply blk_push_old | apply blk_set_same | refine (blk_set_ne (by first | assumption | omega | (simp only [next_push, next_set, next_kill, ne_eq]; omega))).trans ?_ | refine (blk_kill_ne (by first | assumption | omega | (simp only [next_push, next_set, next_kill, ne_eq]; omega))).trans ?_)); (first | done | fail))) (by rfl) (by first | rfl | (simp; (first | done | fail)))) ?_ | refine dw_gyes rfl rfl rfl rfl rfl (ao_loadsV (A := #[.int _ _, .int _ _]) Try.isAgg101 Try.sizeOf101 hh rfl hx rfl (by decide)) ?_ | refine dw_gyes rfl rfl rfl rfl rfl (ao_loadsV (A := #[.int _ _, .int _ _]) Try.isAgg101 Try.sizeOf101 hh rfl hz rfl (by decide)) ?_ | refine dw_gyes rfl rfl rfl rfl rfl (ao_loadsV (A := #[.int _ _, .int _ _]) Try.isAgg101 Try.sizeOf101 hy rfl hx rfl (by decide)) ?_ | refine dw_gyes rfl rfl rfl rfl rfl (ao_loadsV (A := #[.int _ _, .int _ _]) Try.isAgg101 Try.sizeOf101 hy rfl hz rfl (by decide)) ?_
          first | refine dw_gyes rfl rfl rfl rfl rfl (ao_mv (v := .slice _ _ _) rfl) ?_ | refine dw_gyes rfl rfl rfl rfl rfl (ao_mv (v := v) rfl) ?_ | refine dw_gyes rfl rfl rfl rfl rfl (ao_mv (v := y) rfl) ?_
          refine dw_gyes rfl rfl rfl rfl rfl (ao_mv (v := .int _ _) rfl) ?_
          first | refine dw_gyes rfl rfl rfl rfl rfl (ao_indexAddrS Try.underlying28 Try.sizeOf81 rfl rfl (by first | omega | decide | (simp; omega)) (by first | omega | decide | (simp; omega))) ?_ | refine dw_gyes rfl rfl rfl rfl rfl (ao_indexV Try.underlying28 Try.sizeOf81 rfl rfl hh (by first | omega | decide | (simp; omega)) (by first | omega | decide | (simp; omega))) ?_ | refine dw_gyes rfl rfl rfl rfl rfl (ao_indexV Try.underlying28 Try.sizeOf81 rfl rfl hy (by first | omega | decide | (simp; omega)) (by first | omega | decide | (simp; omega))) ?_
          refine dw_gyes rfl rfl rfl rfl rfl (ao_fieldAddr fo_81_0 rfl) ?_
          first | refine dw_gyes rfl rfl rfl rfl rfl (ao_load (v := .int _ _) Try.isAgg31 (by rfl) (by ((repeat (first | exact blk_push_new _ _ | assumption | apply blk_push_old | apply blk_set_same | refine (blk_set_ne (by first | assumption | omega | (simp only [next_push, next_set, next_kill, ne_eq]; omega))).trans ?_ | refine (blk_kill_ne (by first | assumption | omega | (simp only [next_push, next_set, next_kill, ne_eq]; omega))).trans ?_)); (first | done | fail))) (by rfl) (by first | rfl | (simp; (first | done | fail)))) ?_ | refine dw_gyes rfl rfl rfl rfl rfl (ao_loadV (j := 0) (u := .int _ _) Try.isAgg31 hh rfl rfl hx rfl) ?_ | refine dw_gyes rfl rfl rfl rfl rfl (ao_loadV (j := 1) (u := .int _ _) Try.isAgg31 hh rfl rfl hx rfl) ?_ | refine dw_gyes rfl rfl rfl rfl rfl (ao_loadV (j := 0) (u := .int _ _) Try.isAgg31 hh rfl rfl hz rfl) ?_ | refine dw_gyes rfl rfl rfl rfl rfl (ao_loadV (j := 1) (u := .int _ _) Try.isAgg31 hh rfl rfl hz rfl) ?_ | refine dw_gyes rfl rfl rfl rfl rfl (ao_loadV (j := 0) (u := .int _ _) Try.isAgg31 hy rfl rfl hx rfl) ?_ | refine dw_gyes rfl rfl rfl rfl rfl (ao_loadV (j := 1) (u := .int _ _) Try.isAgg31 hy rfl rfl hx rfl) ?_ | refine dw_gyes rfl rfl rfl rfl rfl (ao_loadV (j := 0) (u := .int _ _) Try.isAgg31 hy rfl rfl hz rfl) ?_ | refine dw_gyes rfl rfl rfl rfl rfl (ao_loadV (j := 1) (u := .int _ _) Try.isAgg31 hy rfl rfl hz rfl) ?_
          refine dw_gyes rfl rfl rfl rfl rfl (ao_calld (l03Follows_c (s := countS hs i) (u := z) (w := x.who) (by omega) hwx) Try.call92 rfl rfl) ?_
          refine dw_gyes rfl rfl rfl rfl rfl (ao_not rfl) ?_
          refine dw_opd rfl rfl rfl (ao_pickF rfl (v := .bool _) rfl) ?_
          refine dw_end ?_
          refine al_nilT ?_
          refine aw_cond rfl (fun h4_ => ?_) (fun h4_ => ?_)
          · try simp only [decide_eq_true_eq, decide_eq_false_iff_not, Bool.not_eq_true', Bool.not_eq_false', Bool.and_eq_true, Bool.or_eq_true, Bool.and_eq_false_iff, Bool.or_eq_false_iff, beq_iff_eq, bne_iff_ne, beq_eq_false_iff_ne, bne_eq_false_iff_eq, ne_eq, Decidable.not_not, Bool.decide_eq_true] at h4_
            refine aw_seq ?_
            refine aw_region ?_
            refine al_opd rfl rfl rfl (ao_mv (v := .int _ _) rfl) ?_
            refine al_opd rfl rfl rfl (ao_as (v := .int _ _) rfl) ?_
            refine al_opd rfl rfl rfl (ao_as (v := .int _ _) rfl) ?_
            refine al_nilT ?_
            refine aw_ret ?_
            refine thenA_r ?_
            refine blockA_r ?_
            refine thenA_r ?_
            refine thenA_r ?_
            refine blockA_r ?_
            refine thenA_r ?_
            refine ends2 rfl (rv_tmp (v := .int _ _) rfl) (rv_tmp (v := .int _ _) rfl) ?_
            exact ⟨faultV_hit (firstAt_hit hr (by omega) (fun e => by rw [hz] at e; cases e; first | exact absurd (countS_at hx) h4_ | exact absurd (countS_at hx).symm h4_) hm), by (repeat (first | exact Same.refl _ _ | assumption | refine Same.push ?_ (by (first | exact Nat.le_refl _ | omega | (simp only [next_push, next_set, next_kill]; omega))) _ | refine Same.set ?_ (by (first | exact Nat.le_refl _ | omega | (simp only [next_push, next_set, next_kill]; omega))) _ | refine Same.kill ?_ (by (first | exact Nat.le_refl _ | omega | (simp only [next_push, next_set, next_kill]; omega)))))⟩
          · try simp only [decide_eq_true_eq, decide_eq_false_iff_not, Bool.not_eq_true', Bool.not_eq_false', Bool.and_eq_true, Bool.or_eq_true, Bool.and_eq_false_iff, Bool.or_eq_false_iff, beq_iff_eq, bne_iff_ne, beq_eq_false_iff_ne, bne_eq_false_iff_eq, ne_eq, Decidable.not_not, Bool.decide_eq_true] at h4_
            have hzc : z = countS hs (i + 1) := by have := countS_at hx; simp_all
            refine aw_skipT ?_
            refine aw_region ?_
            first | refine al_opd rfl rfl rfl (ao_mv (v := .slice _ _ _) rfl) ?_ | refine al_opd rfl rfl rfl (ao_mv (v := v) rfl) ?_ | refine al_opd rfl rfl rfl (ao_mv (v := y) rfl) ?_
            refine al_opd rfl rfl rfl (ao_mv (v := .int _ _) rfl) ?_
            first | refine al_opd rfl rfl rfl (ao_indexAddrS Try.underlying67 Try.sizeOf101 rfl rfl (by first | omega | decide | (simp; omega)) (by first | omega | decide | (simp; omega))) ?_ | refine al_opd rfl rfl rfl (ao_indexV Try.underlying67 Try.sizeOf101 rfl rfl hh (by first | omega | decide | (simp; omega)) (by first | omega | decide | (simp; omega))) ?_ | refine al_opd rfl rfl rfl (ao_indexV Try.underlying67 Try.sizeOf101 rfl rfl hy (by first | omega | decide | (simp; omega)) (by first | omega | decide | (simp; omega))) ?_
            first | refine al_opd rfl rfl rfl (ao_loada Try.isAgg101 Try.sizeOf101 rfl (by ((repeat (first | exact blk_push_new _ _ | assumption | apply blk_push_old | apply blk_set_same | refine (blk_set_ne (by first | assumption | omega | (simp only [next_push, next_set, next_kill, ne_eq]; omega))).trans ?_ | refine (blk_kill_ne (by first | assumption | omega | (simp only [next_push, next_set, next_kill, ne_eq]; omega))).trans ?_)); (first | done | fail))) (by rfl) (by first | rfl | (simp; (first | done | fail)))) ?_ | refine al_opd rfl rfl rfl (ao_loadsV (A := #[.int _ _, .int _ _]) Try.isAgg101 Try.sizeOf101 hh rfl hx rfl (by decide)) ?_ | refine al_opd rfl rfl rfl (ao_loadsV (A := #[.int _ _, .int _ _]) Try.isAgg101 Try.sizeOf101 hh rfl hz rfl (by decide)) ?_ | refine al_opd rfl rfl rfl (ao_loadsV (A := #[.int _ _, .int _ _]) Try.isAgg101 Try.sizeOf101 hy rfl hx rfl (by decide)) ?_ | refine al_opd rfl rfl rfl (ao_loadsV (A := #[.int _ _, .int _ _]) Try.isAgg101 Try.sizeOf101 hy rfl hz rfl (by decide)) ?_
            first | refine al_opd rfl rfl rfl ((ao_storeL Try.sizeOf101 (by rfl) (by rfl) (by ((repeat (first | exact blk_push_new _ _ | assumption | apply blk_push_old | apply blk_set_same | refine (blk_set_ne (by first | assumption | omega | (simp only [next_push, next_set, next_kill, ne_eq]; omega))).trans ?_ | refine (blk_kill_ne (by first | assumption | omega | (simp only [next_push, next_set, next_kill, ne_eq]; omega))).trans ?_)); (first | done | fail))) (by first | rfl | (simp; (first | done | fail))) (by first | rfl | (simp; (first | done | fail))) (by first | rfl | (simp; (first | done | fail)))).to (SetR.eq (by (repeat (first | exact SetR.new | exact SetR.same | (apply SetR.old; · exact ⟨_, by ((repeat (first | exact blk_push_new _ _ | assumption | apply blk_push_old | apply blk_set_same | refine (blk_set_ne (by first | assumption | omega | (simp only [next_push, next_set, next_kill, ne_eq]; omega))).trans ?_ | refine (blk_kill_ne (by first | assumption | omega | (simp only [next_push, next_set, next_kill, ne_eq]; omega))).trans ?_)); (first | done | fail))⟩) | exact SetR.base))))) ?_ | refine al_opd rfl rfl rfl ((ao_storeP (ds := [.int _ _, .int _ _]) Try.sizeOf101 (by rfl) (by rfl) (by ((repeat (first | exact blk_push_new _ _ | assumption | apply blk_push_old | apply blk_set_same | refine (blk_set_ne (by first | assumption | omega | (simp only [next_push, next_set, next_kill, ne_eq]; omega))).trans ?_ | refine (blk_kill_ne (by first | assumption | omega | (simp only [next_push, next_set, next_kill, ne_eq]; omega))).trans ?_)); (first | done | fail))) (by first | rfl | (simp; (first | done | fail))) (by first | rfl | (simp; (first | done | fail))) (by first | decide | (simp; (first | done | fail)) | (simp; omega))).to (SetR.eq (by (repeat (first | exact SetR.new | exact SetR.same | (apply SetR.old; · exact ⟨_, by ((repeat (first | exact blk_push_new _ _ | assumption | apply blk_push_old | apply blk_set_same | refine (blk_set_ne (by first | assumption | omega | (simp only [next_push, next_set, next_kill, ne_eq]; omega))).trans ?_ | refine (blk_kill_ne (by first | assumption | omega | (simp only [next_push, next_set, next_kill, ne_eq]; omega))).trans ?_)); (first | done | fail))⟩) | exact SetR.base))))) ?_
            refine al_nilB ?_
            refine thenA_n ?_
            refine aw_region ?_
            refine al_opd rfl rfl rfl (ao_mv (v := .int _ _) rfl) ?_
            first | refine al_opd rfl rfl rfl ((ao_add rfl rfl).val (nw_i64 (by first | omega | decide) (by first | omega | decide))) ?_ | refine al_opd rfl rfl rfl (ao_add rfl rfl) ?_
            refine al_opd rfl rfl rfl (ao_as (v := .int _ _) rfl) ?_
            refine al_nilT ?_
            refine ⟨_, ?_, _, rfl, i + 1, by omega, rfl, by (repeat (first | exact Same.refl _ _ | assumption | refine Same.push ?_ (by (first | exact Nat.le_refl _ | omega | (simp only [next_push, next_set, next_kill]; omega))) _ | refine Same.set ?_ (by (first | exact Nat.le_refl _ | omega | (simp only [next_push, next_set, next_kill]; omega))) _ | refine Same.kill ?_ (by (first | exact Nat.le_refl _ | omega | (simp only [next_push, next_set, next_kill]; omega))))), by (first | exact Nat.le_refl _ | omega | (simp only [next_push, next_set, next_kill]; omega)), ?_, fun j hj => ?_, rfl, rfl, rfl, by rfl⟩
            · omega
            · rw [← hzc]; exact (by ((repeat (first | exact blk_push_new _ _ | assumption | apply blk_push_old | apply blk_set_same | refine (blk_set_ne (by first | assumption | omega | (simp only [next_push, next_set, next_kill, ne_eq]; omega))).trans ?_ | refine (blk_kill_ne (by first | assumption | omega | (simp only [next_push, next_set, next_kill, ne_eq]; omega))).trans ?_)); (first | done | fail)))
            · rcases Nat.lt_or_ge j i with h9 | h9
              · exact hm j h9
              · obtain rfl : j = i := by omega
                exact fun hf => hf (by rw [hz, hzc])
      · try simp only [decide_eq_true_eq, decide_eq_false_iff_not, Bool.not_eq_true', Bool.not_eq_false', Bool.and_eq_true, Bool.or_eq_true, Bool.and_eq_false_iff, Bool.or_eq_false_iff, beq_iff_eq, bne_iff_ne, beq_eq_false_iff_ne, bne_eq_false_iff_eq, ne_eq, Decidable.not_not, Bool.decide_eq_true] at h2_
        refine aw_exit ?_
        refine thenA_x ?_
        refine thenA_x ?_
        refine blockA_hit ?_
        refine thenA_n ?_
        refine aw_seq ?_
        refine aw_seq ?_
        refine aw_region ?_
        first | refine al_opd rfl rfl rfl (ao_mv (v := .slice _ _ _) rfl) ?_ | refine al_opd rfl rfl rfl (ao_mv (v := v) rfl) ?_ | refine al_opd rfl rfl rfl (ao_mv (v := y) rfl) ?_
        first | refine al_opd rfl rfl rfl (ao_lenS Try.underlying67 (by rfl)) ?_ | refine al_opd rfl rfl rfl (ao_lenN Try.underlying67 (by rfl)) ?_ | refine al_opd rfl rfl rfl (ao_lenV Try.underlying67 rfl hh) ?_ | refine al_opd rfl rfl rfl (ao_lenV Try.underlying67 rfl hy) ?_
        first | refine al_opd rfl rfl rfl (ao_mv (v := .slice _ _ _) rfl) ?_ | refine al_opd rfl rfl rfl (ao_mv (v := v) rfl) ?_ | refine al_opd rfl rfl rfl (ao_mv (v := y) rfl) ?_
        first | refine al_opd rfl rfl rfl (ao_lenS Try.underlying28 (by rfl)) ?_ | refine al_opd rfl rfl rfl (ao_lenN Try.underlying28 (by rfl)) ?_ | refine al_opd rfl rfl rfl (ao_lenV Try.underlying28 rfl hh) ?_ | refine al_opd rfl rfl rfl (ao_lenV Try.underlying28 rfl hy) ?_
        refine al_opd rfl rfl rfl (ao_gtr rfl rfl) ?_
        refine al_nilT ?_
        refine aw_cond rfl (fun h5_ => ?_) (fun h5_ => ?_)
        · try simp only [decide_eq_true_eq, decide_eq_false_iff_not, Bool.not_eq_true', Bool.not_eq_false', Bool.and_eq_true, Bool.or_eq_true, Bool.and_eq_false_iff, Bool.or_eq_false_iff, beq_iff_eq, bne_iff_ne, beq_eq_false_iff_ne, bne_eq_false_iff_eq, ne_eq, Decidable.not_not, Bool.decide_eq_true] at h5_
          refine aw_seq ?_
          refine aw_region ?_
          first | refine al_opd rfl rfl rfl (ao_mv (v := .slice _ _ _) rfl) ?_ | refine al_opd rfl rfl rfl (ao_mv (v := v) rfl) ?_ | refine al_opd rfl rfl rfl (ao_mv (v := y) rfl) ?_
          first | refine al_opd rfl rfl rfl (ao_lenS Try.underlying28 (by rfl)) ?_ | refine al_opd rfl rfl rfl (ao_lenN Try.underlying28 (by rfl)) ?_ | refine al_opd rfl rfl rfl (ao_lenV Try.underlying28 rfl hh) ?_ | refine al_opd rfl rfl rfl (ao_lenV Try.underlying28 rfl hy) ?_
          refine al_opd rfl rfl rfl (ao_as (v := .int _ _) rfl) ?_
          refine al_opd rfl rfl rfl (ao_as (v := .int _ _) rfl) ?_
          refine al_nilT ?_
          refine aw_ret ?_
          refine thenA_r ?_
          refine ends2 rfl (rv_tmp (v := .int _ _) rfl) (rv_tmp (v := .int _ _) rfl) ?_
          exact ⟨faultV_more (firstAt_none hr (fun j hj => hm j (by omega))) (by omega), by (repeat (first | exact Same.refl _ _ | assumption | refine Same.push ?_ (by (first | exact Nat.le_refl _ | omega | (simp only [next_push, next_set, next_kill]; omega))) _ | refine Same.set ?_ (by (first | exact Nat.le_refl _ | omega | (simp only [next_push, next_set, next_kill]; omega))) _ | refine Same.kill ?_ (by (first | exact Nat.le_refl _ | omega | (simp only [next_push, next_set, next_kill]; omega)))))⟩
        · try simp only [decide_eq_true_eq, decide_eq_false_iff_not, Bool.not_eq_true', Bool.not_eq_false', Bool.and_eq_true, Bool.or_eq_true, Bool.and_eq_false_iff, Bool.or_eq_false_iff, beq_iff_eq, bne_iff_ne, beq_eq_false_iff_ne, bne_eq_false_iff_eq, ne_eq, Decidable.not_not, Bool.decide_eq_true] at h5_
          refine aw_skipT ?_
          refine aw_seq ?_
          refine aw_region ?_
          refine al_opd rfl rfl rfl (ao_as (v := .int _ _) rfl) ?_
          refine al_opd rfl rfl rfl (ao_as (v := .int _ _) rfl) ?_
          refine al_nilT ?_
          refine aw_ret ?_
          refine ends2 rfl (rv_tmp (v := .int _ _) rfl) (rv_tmp (v := .int _ _) rfl) ?_
          exact ⟨faultV_none (firstAt_none hr (fun j hj => hm j (by omega))) (by omega), by (repeat (first | exact Same.refl _ _ | assumption | refine Same.push ?_ (by (first | exact Nat.le_refl _ | omega | (simp only [next_push, next_set, next_kill]; omega))) _ | refine Same.set ?_ (by (first | exact Nat.le_refl _ | omega | (simp only [next_push, next_set, next_kill]; omega))) _ | refine Same.kill ?_ (by (first | exact Nat.le_refl _ | omega | (simp only [next_push, next_set, next_kill]; omega)))))⟩

-- spec.FirstFault
theorem specFault0_c {L : Int} {v : Value} {ks : List Int} {hs : List Hold} {lb c : Nat} {y : Value} {sd : List Said} {H : AHeap} (ha0 : Sl H i16 1 v ks) (hk0 : H.blk lb = some (.cells (fl hold hs) 2)) (hcc : hs.length ≤ c) (hlen : ks.length ≤ 4194304) (hn : hs.length ≤ 4194304) (hL : -32768 ≤ L ∧ L ≤ 32767) (hw : holdOk hs) (hy0 : Sl H said 2 y sd) (hd : sd.length ≤ 4194304) (hv : ¬ (okRope L ks ∧ okHolds ks.length hs)) : ACd Try.prog 57 [.agg #[.int .i16 L, v], .slice (some ⟨lb, 0, none⟩) hs.length c, y] H (.tuple #[.int .i64 0, .int .i64 1]) (H) := by
  have hh0 : Sl H hold 2 (.slice (some ⟨lb, 0, none⟩) hs.length c) hs := Sl.full hold_len hk0 rfl rfl rfl
  have hlt0 := AHeap.lt hk0
  refine ac_gc0 (fun β => VR.plainT β (by first | rfl | simp [plainT, plainV, plain1])) (ac_body Try.func57 rfl Try.ntmps57 rfl ?_)
  refine aw_seq ?_
  refine aw_region ?_
  refine al_opd rfl rfl rfl (ao_boxa (by rfl)) ?_
  refine al_opd rfl rfl rfl (ao_as (v := .int _ _) rfl) ?_
  refine al_opd rfl rfl rfl (ao_as (v := .int _ _) rfl) ?_
  refine al_nilT ?_
  refine aw_seq ?_
  refine aw_seq ?_
  refine aw_region ?_
  first | refine al_opd rfl rfl rfl (ao_mv (v := .slice _ _ _) rfl) ?_ | refine al_opd rfl rfl rfl (ao_mv (v := v) rfl) ?_ | refine al_opd rfl rfl rfl (ao_mv (v := y) rfl) ?_
  refine al_opd rfl rfl rfl (ao_calld (l03Holds_c (L := L) (v := v) (ks := ks) (hs := hs) (b := false) (ha0.mono (by (repeat (first | exact Same.refl _ _ | assumption | refine Same.push ?_ (by (first | exact Nat.le_refl _ | omega | (simp only [next_push, next_set, next_kill]; omega))) _ | refine Same.set ?_ (by (first | exact Nat.le_refl _ | omega | (simp only [next_push, next_set, next_kill]; omega))) _ | refine Same.kill ?_ (by (first | exact Nat.le_refl _ | omega | (simp only [next_push, next_set, next_kill]; omega))))))) (hh0.mono (by (repeat (first | exact Same.refl _ _ | assumption | refine Same.push ?_ (by (first | exact Nat.le_refl _ | omega | (simp only [next_push, next_set, next_kill]; omega))) _ | refine Same.set ?_ (by (first | exact Nat.le_refl _ | omega | (simp only [next_push, next_set, next_kill]; omega))) _ | refine Same.kill ?_ (by (first | exact Nat.le_refl _ | omega | (simp only [next_push, next_set, next_kill]; omega))))))) (by ((repeat (first | exact blk_push_new _ _ | assumption | apply blk_push_old | apply blk_set_same | refine (blk_set_ne (by first | assumption | omega | (simp only [next_push, next_set, next_kill, ne_eq]; omega))).trans ?_ | refine (blk_kill_ne (by first | assumption | omega | (simp only [next_push, next_set, next_kill, ne_eq]; omega))).trans ?_)); (first | done | fail))) hlen hn hL hw (no hv)) Try.call84 rfl rfl) ?_
  refine al_opd rfl rfl rfl (ao_not rfl) ?_
  refine al_nilT ?_
  refine aw_cond rfl (fun h1_ => ?_) (fun h1_ => ?_)
  · try simp only [decide_eq_true_eq, decide_eq_false_iff_not, Bool.not_eq_true', Bool.not_eq_false', Bool.and_eq_true, Bool.or_eq_true, Bool.and_eq_false_iff, Bool.or_eq_false_iff, beq_iff_eq, bne_iff_ne, beq_eq_false_iff_ne, bne_eq_false_iff_eq, ne_eq, Decidable.not_not, Bool.decide_eq_true] at h1_
    refine aw_seq ?_
    refine aw_region ?_
    refine al_opd rfl rfl rfl (ao_as (v := .int _ _) rfl) ?_
    refine al_opd rfl rfl rfl (ao_as (v := .int _ _) rfl) ?_
    refine al_nilT ?_
    refine aw_ret ?_
    refine thenA_r ?_
    refine ends2 rfl (rv_tmp (v := .int _ _) rfl) (rv_tmp (v := .int _ _) rfl) ?_
    exact ⟨by first | rfl | (simp [*]; (first | done | fail)), by (repeat (first | exact Same.refl _ _ | assumption | refine Same.push ?_ (by (first | exact Nat.le_refl _ | omega | (simp only [next_push, next_set, next_kill]; omega))) _ | refine Same.set ?_ (by (first | exact Nat.le_refl _ | omega | (simp only [next_push, next_set, next_kill]; omega))) _ | refine Same.kill ?_ (by (first | exact Nat.le_refl _ | omega | (simp only [next_push, next_set, next_kill]; omega)))))⟩
  · try simp only [decide_eq_true_eq, decide_eq_false_iff_not, Bool.not_eq_true', Bool.not_eq_false', Bool.and_eq_true, Bool.or_eq_true, Bool.and_eq_false_iff, Bool.or_eq_false_iff, beq_iff_eq, bne_iff_ne, beq_eq_false_iff_ne, bne_eq_false_iff_eq, ne_eq, Decidable.not_not, Bool.decide_eq_true] at h1_
    first | done | omega | (exfalso; revert h1_; simp; (first | done | omega))

-- impl.FirstFault
theorem implFault1_c {L : Int} {v : Value} {ks : List Int} {hs : List Hold} {lb c : Nat} {y : Value} {sd : List Said} {r : Int} {H : AHeap} (ha0 : Sl H i16 1 v ks) (hk0 : H.blk lb = some (.cells (fl hold hs) 2)) (hcc : hs.length ≤ c) (hlen : ks.length ≤ 4194304) (hn : hs.length ≤ 4194304) (hL : -32768 ≤ L ∧ L ≤ 32767) (hw : holdOk hs) (hy0 : Sl H said 2 y sd) (hd : sd.length ≤ 4194304) (hv : okRope L ks ∧ okHolds ks.length hs) (hr : firstAt (faultAt hs sd) hs.length r) : ACd Try.prog 59 [.agg #[.int .i16 L, v], .slice (some ⟨lb, 0, none⟩) hs.length c, y] H (faultV hs.length sd.length r) (H) := by
  have hh0 : Sl H hold 2 (.slice (some ⟨lb, 0, none⟩) hs.length c) hs := Sl.full hold_len hk0 rfl rfl rfl
  have hlt0 := AHeap.lt hk0
  have ⟨v1, v2, v3, v4, v5, v6, v7⟩ := hv.1
  have hln := okHolds_len hv.2
  refine ac_gc0 (fun β => VR.plainT β (by first | rfl | simp [plainT, plainV, plain1])) (ac_body Try.func59 rfl Try.ntmps59 rfl ?_)
  refine aw_seq ?_
  refine aw_region ?_
  refine al_opd rfl rfl rfl (ao_boxa (by rfl)) ?_
  refine al_opd rfl rfl rfl (ao_as (v := .int _ _) rfl) ?_
  refine al_opd rfl rfl rfl (ao_as (v := .int _ _) rfl) ?_
  refine al_nilT ?_
  refine aw_seq ?_
  refine aw_seq ?_
  refine aw_region ?_
  first | refine al_opd rfl rfl rfl (ao_loada Try.isAgg37 Try.sizeOf37 rfl (by ((repeat (first | exact blk_push_new _ _ | assumption | apply blk_push_old | apply blk_set_same | refine (blk_set_ne (by first | assumption | omega | (simp only [next_push, next_set, next_kill, ne_eq]; omega))).trans ?_ | refine (blk_kill_ne (by first | assumption | omega | (simp only [next_push, next_set, next_kill, ne_eq]; omega))).trans ?_)); (first | done | fail))) (by rfl) (by first | rfl | (simp; (first | done | fail)))) ?_ | refine al_opd rfl rfl rfl (ao_loadsV (A := #[.int _ _, .slice _ _ _]) Try.isAgg37 Try.sizeOf37 hh rfl hx rfl (by decide)) ?_ | refine al_opd rfl rfl rfl (ao_loadsV (A := #[.int _ _, .slice _ _ _]) Try.isAgg37 Try.sizeOf37 hh rfl hz rfl (by decide)) ?_ | refine al_opd rfl rfl rfl (ao_loadsV (A := #[.int _ _, .slice _ _ _]) Try.isAgg37 Try.sizeOf37 hy rfl hx rfl (by decide)) ?_ | refine al_opd rfl rfl rfl (ao_loadsV (A := #[.int _ _, .slice _ _ _]) Try.isAgg37 Try.sizeOf37 hy rfl hz rfl (by decide)) ?_ | refine al_opd rfl rfl rfl (ao_loadsV (A := #[.int _ _, .slice _ _ _]) Try.isAgg37 Try.sizeOf37 hy' rfl hx rfl (by decide)) ?_ | refine al_opd rfl rfl rfl (ao_loadsV (A := #[.int _ _, .slice _ _ _]) Try.isAgg37 Try.sizeOf37 hy' rfl hz rfl (by decide)) ?_
  first | refine al_opd rfl rfl rfl (ao_mv (v := .slice _ _ _) rfl) ?_ | refine al_opd rfl rfl rfl (ao_mv (v := v) rfl) ?_ | refine al_opd rfl rfl rfl (ao_mv (v := y) rfl) ?_
  refine al_opd rfl rfl rfl (ao_calld (implValidHolds_c (L := L) (v := v) (ks := ks) (hs := hs) (b := true) (ha0.mono (by (repeat (first | exact Same.refl _ _ | assumption | refine Same.push ?_ (by (first | exact Nat.le_refl _ | omega | (simp only [next_push, next_set, next_kill]; omega))) _ | refine Same.set ?_ (by (first | exact Nat.le_refl _ | omega | (simp only [next_push, next_set, next_kill]; omega))) _ | refine Same.kill ?_ (by (first | exact Nat.le_refl _ | omega | (simp only [next_push, next_set, next_kill]; omega))))))) (by ((repeat (first | exact blk_push_new _ _ | assumption | apply blk_push_old | apply blk_set_same | refine (blk_set_ne (by first | assumption | omega | (simp only [next_push, next_set, next_kill, ne_eq]; omega))).trans ?_ | refine (blk_kill_ne (by first | assumption | omega | (simp only [next_push, next_set, next_kill, ne_eq]; omega))).trans ?_)); (first | done | fail))) hlen hn hL hw (yes hv)) Try.call47 rfl rfl) ?_
  refine al_opd rfl rfl rfl (ao_not rfl) ?_
  refine al_nilT ?_
  refine aw_cond rfl (fun h1_ => ?_) (fun h1_ => ?_)
  · try simp only [decide_eq_true_eq, decide_eq_false_iff_not, Bool.not_eq_true', Bool.not_eq_false', Bool.and_eq_true, Bool.or_eq_true, Bool.and_eq_false_iff, Bool.or_eq_false_iff, beq_iff_eq, bne_iff_ne, beq_eq_false_iff_ne, bne_eq_false_iff_eq, ne_eq, Decidable.not_not, Bool.decide_eq_true] at h1_
    first | done | omega | (exfalso; revert h1_; simp; (first | done | omega))
  · try simp only [decide_eq_true_eq, decide_eq_false_iff_not, Bool.not_eq_true', Bool.not_eq_false', Bool.and_eq_true, Bool.or_eq_true, Bool.and_eq_false_iff, Bool.or_eq_false_iff, beq_iff_eq, bne_iff_ne, beq_eq_false_iff_ne, bne_eq_false_iff_eq, ne_eq, Decidable.not_not, Bool.decide_eq_true] at h1_
    refine aw_skipT ?_
    refine aw_seq ?_
    refine aw_region ?_
    refine al_opd rfl rfl rfl (ao_build (A := #[.int _ _, .int _ _]) Try.zeroValue101 (by rfl) (by first | rfl | kernel_rfl) (by rfl) (by first | rfl | kernel_rfl)) ?_
    refine al_opd rfl rfl rfl (ao_alloca (zv101) (by rfl)) ?_
    first | refine al_opd rfl rfl rfl ((ao_storeL Try.sizeOf101 (by rfl) (by rfl) (by ((repeat (first | exact blk_push_new _ _ | assumption | apply blk_push_old | apply blk_set_same | refine (blk_set_ne (by first | assumption | omega | (simp only [next_push, next_set, next_kill, ne_eq]; omega))).trans ?_ | refine (blk_kill_ne (by first | assumption | omega | (simp only [next_push, next_set, next_kill, ne_eq]; omega))).trans ?_)); (first | done | fail))) (by first | rfl | (simp; (first | done | fail))) (by first | rfl | (simp; (first | done | fail))) (by first | rfl | (simp; (first | done | fail)))).to (SetR.eq (by (repeat (first | exact SetR.new | exact SetR.same | (apply SetR.old; · exact ⟨_, by ((repeat (first | exact blk_push_new _ _ | assumption | apply blk_push_old | apply blk_set_same | refine (blk_set_ne (by first | assumption | omega | (simp only [next_push, next_set, next_kill, ne_eq]; omega))).trans ?_ | refine (blk_kill_ne (by first | assumption | omega | (simp only [next_push, next_set, next_kill, ne_eq]; omega))).trans ?_)); (first | done | fail))⟩) | exact SetR.base))))) ?_ | refine al_opd rfl rfl rfl ((ao_storeP (ds := [.int _ _, .int _ _]) Try.sizeOf101 (by rfl) (by rfl) (by ((repeat (first | exact blk_push_new _ _ | assumption | apply blk_push_old | apply blk_set_same | refine (blk_set_ne (by first | assumption | omega | (simp only [next_push, next_set, next_kill, ne_eq]; omega))).trans ?_ | refine (blk_kill_ne (by first | assumption | omega | (simp only [next_push, next_set, next_kill, ne_eq]; omega))).trans ?_)); (first | done | fail))) (by first | rfl | (simp; (first | done | fail))) (by first | rfl | (simp; (first | done | fail))) (by first | decide | (simp; (first | done | fail)) | (simp; omega))).to (SetR.eq (by (repeat (first | exact SetR.new | exact SetR.same | (apply SetR.old; · exact ⟨_, by ((repeat (first | exact blk_push_new _ _ | assumption | apply blk_push_old | apply blk_set_same | refine (blk_set_ne (by first | assumption | omega | (simp only [next_push, next_set, next_kill, ne_eq]; omega))).trans ?_ | refine (blk_kill_ne (by first | assumption | omega | (simp only [next_push, next_set, next_kill, ne_eq]; omega))).trans ?_)); (first | done | fail))⟩) | exact SetR.base))))) ?_
    refine al_nilT ?_
    refine aw_seq ?_
    refine aw_seq ?_
    refine aw_region ?_
    first | refine al_opd rfl rfl rfl (ao_mv (v := .slice _ _ _) rfl) ?_ | refine al_opd rfl rfl rfl (ao_mv (v := v) rfl) ?_ | refine al_opd rfl rfl rfl (ao_mv (v := y) rfl) ?_
    first | refine al_opd rfl rfl rfl (ao_lenS Try.underlying28 (by rfl)) ?_ | refine al_opd rfl rfl rfl (ao_lenN Try.underlying28 (by rfl)) ?_ | refine al_opd rfl rfl rfl (ao_lenV Try.underlying28 rfl hh) ?_ | refine al_opd rfl rfl rfl (ao_lenV Try.underlying28 rfl hy) ?_ | refine al_opd rfl rfl rfl (ao_lenV Try.underlying28 rfl hy') ?_
    refine al_opd rfl rfl rfl (ao_mv (v := .int _ _) rfl) ?_
    refine al_nilT ?_
    refine aw_block ?_
    refine aw_loop (fun (gk : Nat) (fr : AFr) (G : AHeap) => ∃ get : Nat → Value, fr = ⟨50, get⟩ ∧ (∃ i : Nat, i ≤ hs.length ∧ gk = hs.length - i ∧ Same H.next H G ∧ H.next + 2 ≤ G.next ∧ G.blk (H.next + 1) = some (.cells [.int .i64 (countS hs i).number, .int .i64 (countS hs i).check] 1) ∧ (∀ j, j < i → ¬ faultAt hs sd j) ∧ get 1 = .slice (some ⟨lb, 0, none⟩) hs.length c ∧ get 2 = y ∧ get 8 = .pointer (some ⟨H.next + 1, 0, none⟩) ∧ get 18 = .int .i64 i ∧ get 17 = .int .i64 hs.length ∧ get 16 = .slice (some ⟨lb, 0, none⟩) hs.length c)) (hs.length) ⟨_, rfl, ?_⟩ ?_
    · exact ⟨0, Nat.zero_le _, rfl, by (repeat (first | exact Same.refl _ _ | assumption | refine Same.push ?_ (by (first | exact Nat.le_refl _ | omega | (simp only [next_push, next_set, next_kill]; omega))) _ | refine Same.set ?_ (by (first | exact Nat.le_refl _ | omega | (simp only [next_push, next_set, next_kill]; omega))) _ | refine Same.kill ?_ (by (first | exact Nat.le_refl _ | omega | (simp only [next_push, next_set, next_kill]; omega))))), by (first | exact Nat.le_refl _ | omega | (simp only [next_push, next_set, next_kill]; omega)), by ((repeat (first | exact blk_push_new _ _ | assumption | apply blk_push_old | apply blk_set_same | refine (blk_set_ne (by first | assumption | omega | (simp only [next_push, next_set, next_kill, ne_eq]; omega))).trans ?_ | refine (blk_kill_ne (by first | assumption | omega | (simp only [next_push, next_set, next_kill, ne_eq]; omega))).trans ?_)); (first | done | fail)), fun j h => by omega, rfl, rfl, rfl, rfl, rfl, rfl⟩
    · rintro gk fr G ⟨get, rfl, i, hi, rfl, hG, hnx, hkc, hm, g1, g2, g8, g9, g10, g11⟩
      have hh : Sl G hold 2 (.slice (some ⟨lb, 0, none⟩) hs.length c) hs := hh0.mono hG
      have hy : Sl G said 2 y sd := hy0.mono hG
      have hcb := countS_bnd hs i (by omega)
      have hcn := countS_num hs i
      refine aw_slot (d := 1) (v := .slice (some ⟨lb, 0, none⟩) hs.length c) (by first | assumption | rfl) ?_
      refine aw_slot (d := 2) (v := y) (by first | assumption | rfl) ?_
      refine aw_slot (d := 8) (v := .pointer (some ⟨H.next + 1, 0, none⟩)) (by first | assumption | rfl) ?_
      refine aw_slot (d := 18) (v := .int .i64 i) (by first | assumption | rfl) ?_
      refine aw_slot (d := 17) (v := .int .i64 hs.length) (by first | assumption | rfl) ?_
      refine aw_slot (d := 16) (v := .slice (some ⟨lb, 0, none⟩) hs.length c) (by first | assumption | rfl) ?_
      refine aw_seq ?_
      refine aw_region ?_
      refine al_opd rfl rfl rfl (ao_lss rfl rfl) ?_
      refine al_nilT ?_
      refine aw_seq ?_
      refine aw_cond rfl (fun h2_ => ?_) (fun h2_ => ?_)
      · try simp only [decide_eq_true_eq, decide_eq_false_iff_not, Bool.not_eq_true', Bool.not_eq_false', Bool.and_eq_true, Bool.or_eq_true, Bool.and_eq_false_iff, Bool.or_eq_false_iff, beq_iff_eq, bne_iff_ne, beq_eq_false_iff_ne, bne_eq_false_iff_eq, ne_eq, Decidable.not_not, Bool.decide_eq_true] at h2_
        obtain ⟨x, hx⟩ := get_lt (show i < hs.length by omega)
        have hwx : 0 ≤ x.who ∧ x.who ≤ 999 := by have := (hv.2 i x hx).1; unfold inRange at this; omega
        have hy' : Sl (G.push (.cells [.int .i16 x.who, .int .i8 x.knot] 1)) said 2 y sd := hy.mono (by (repeat (first | exact Same.refl _ _ | assumption | refine Same.push ?_ (by (first | exact Nat.le_refl _ | omega | (simp only [next_push, next_set, next_kill]; omega))) _ | refine Same.set ?_ (by (first | exact Nat.le_refl _ | omega | (simp only [next_push, next_set, next_kill]; omega))) _ | refine Same.kill ?_ (by (first | exact Nat.le_refl _ | omega | (simp only [next_push, next_set, next_kill]; omega))))))
        refine aw_skipT ?_
        refine aw_seq ?_
        refine aw_block ?_
        refine aw_seq ?_
        refine aw_region ?_
        refine al_opd rfl rfl rfl (ao_mv (v := .int _ _) rfl) ?_
        first | refine al_opd rfl rfl rfl (ao_indexAddrS Try.underlying28 Try.sizeOf81 rfl rfl (by first | omega | decide | (simp; omega)) (by first | omega | decide | (simp; omega))) ?_ | refine al_opd rfl rfl rfl (ao_indexV Try.underlying28 Try.sizeOf81 rfl rfl hh (by first | omega | decide | (simp; omega)) (by first | omega | decide | (simp; omega))) ?_ | refine al_opd rfl rfl rfl (ao_indexV Try.underlying28 Try.sizeOf81 rfl rfl hy (by first | omega | decide | (simp; omega)) (by first | omega | decide | (simp; omega))) ?_ | refine al_opd rfl rfl rfl (ao_indexV Try.underlying28 Try.sizeOf81 rfl rfl hy' (by first | omega | decide | (simp; omega)) (by first | omega | decide | (simp; omega))) ?_
        first | refine al_opd rfl rfl rfl (ao_loada Try.isAgg81 Try.sizeOf81 rfl (by ((repeat (first | exact blk_push_new _ _ | assumption | apply blk_push_old | apply blk_set_same | refine (blk_set_ne (by first | assumption | omega | (simp only [next_push, next_set, next_kill, ne_eq]; omega))).trans ?_ | refine (blk_kill_ne (by first | assumption | omega | (simp only [next_push, next_set, next_kill, ne_eq]; omega))).trans ?_)); (first | done | fail))) (by rfl) (by first | rfl | (simp; (first | done | fail)))) ?_ | refine al_opd rfl rfl rfl (ao_loadsV (A := #[.int _ _, .int _ _]) Try.isAgg81 Try.sizeOf81 hh rfl hx rfl (by decide)) ?_ | refine al_opd rfl rfl rfl (ao_loadsV (A := #[.int _ _, .int _ _]) Try.isAgg81 Try.sizeOf81 hh rfl hz rfl (by decide)) ?_ | refine al_opd rfl rfl rfl (ao_loadsV (A := #[.int _ _, .int _ _]) Try.isAgg81 Try.sizeOf81 hy rfl hx rfl (by decide)) ?_ | refine al_opd rfl rfl rfl (ao_loadsV (A := #[.int _ _, .int _ _]) Try.isAgg81 Try.sizeOf81 hy rfl hz rfl (by decide)) ?_ | refine al_opd rfl rfl rfl (ao_loadsV (A := #[.int _ _, .int _ _]) Try.isAgg81 Try.sizeOf81 hy' rfl hx rfl (by decide)) ?_ | refine al_opd rfl rfl rfl (ao_loadsV (A := #[.int _ _, .int _ _]) Try.isAgg81 Try.sizeOf81 hy' rfl hz rfl (by decide)) ?_
        refine al_opd rfl rfl rfl (ao_alloca (zv81) (by rfl)) ?_
        refine al_opd rfl rfl rfl (ao_as (v := .int _ _) rfl) ?_
        first | refine al_opd rfl rfl rfl ((ao_storeL Try.sizeOf81 (by rfl) (by rfl) (by ((repeat (first | exact blk_push_new _ _ | assumption | apply blk_push_old | apply blk_set_same | refine (blk_set_ne (by first | assumption | omega | (simp only [next_push, next_set, next_kill, ne_eq]; omega))).trans ?_ | refine (blk_kill_ne (by first | assumption | omega | (simp only [next_push, next_set, next_kill, ne_eq]; omega))).trans ?_)); (first | done | fail))) (by first | rfl | (simp; (first | done | fail))) (by first | rfl | (simp; (first | done | fail))) (by first | rfl | (simp; (first | done | fail)))).to (SetR.eq (by (repeat (first | exact SetR.new | exact SetR.same | (apply SetR.old; · exact ⟨_, by ((repeat (first | exact blk_push_new _ _ | assumption | apply blk_push_old | apply blk_set_same | refine (blk_set_ne (by first | assumption | omega | (simp only [next_push, next_set, next_kill, ne_eq]; omega))).trans ?_ | refine (blk_kill_ne (by first | assumption | omega | (simp only [next_push, next_set, next_kill, ne_eq]; omega))).trans ?_)); (first | done | fail))⟩) | exact SetR.base))))) ?_ | refine al_opd rfl rfl rfl ((ao_storeP (ds := [.int _ _, .int _ _]) Try.sizeOf81 (by rfl) (by rfl) (by ((repeat (first | exact blk_push_new _ _ | assumption | apply blk_push_old | apply blk_set_same | refine (blk_set_ne (by first | assumption | omega | (simp only [next_push, next_set, next_kill, ne_eq]; omega))).trans ?_ | refine (blk_kill_ne (by first | assumption | omega | (simp only [next_push, next_set, next_kill, ne_eq]; omega))).trans ?_)); (first | done | fail))) (by first | rfl | (simp; (first | done | fail))) (by first | rfl | (simp; (first | done | fail))) (by first | decide | (simp; (first | done | fail)) | (simp; omega))).to (SetR.eq (by (repeat (first | exact SetR.new | exact SetR.same | (apply SetR.old; · exact ⟨_, by ((repeat (first | exact blk_push_new _ _ | assumption | apply blk_push_old | apply blk_set_same | refine (blk_set_ne (by first | assumption | omega | (simp only [next_push, next_set, next_kill, ne_eq]; omega))).trans ?_ | refine (blk_kill_ne (by first | assumption | omega | (simp only [next_push, next_set, next_kill, ne_eq]; omega))).trans ?_)); (first | done | fail))⟩) | exact SetR.base))))) ?_
        refine al_nilT ?_
        refine aw_seq ?_
        refine aw_seq ?_
        refine aw_draw (m := 14) mo (by kernel_rfl) rfl ?_
        refine dw_opd rfl rfl rfl (ao_mv (v := .int _ _) rfl) ?_
        first | refine dw_opd rfl rfl rfl (ao_mv (v := .slice _ _ _) rfl) ?_ | refine dw_opd rfl rfl rfl (ao_mv (v := v) rfl) ?_ | refine dw_opd rfl rfl rfl (ao_mv (v := y) rfl) ?_
        first | refine dw_opd rfl rfl rfl (ao_lenS Try.underlying67 (by rfl)) ?_ | refine dw_opd rfl rfl rfl (ao_lenN Try.underlying67 (by rfl)) ?_ | refine dw_opd rfl rfl rfl (ao_lenV Try.underlying67 rfl hh) ?_ | refine dw_opd rfl rfl rfl (ao_lenV Try.underlying67 rfl hy) ?_ | refine dw_opd rfl rfl rfl (ao_lenV Try.underlying67 rfl hy') ?_
        refine dw_opd rfl rfl rfl (ao_geq rfl rfl) ?_
        refine dw_opd rfl rfl rfl (ao_mv (v := .bool _) rfl) ?_
        refine dw_cases (d := 27) rfl (fun h3_ => ?_) (fun h3_ => ?_)
        · try simp only [decide_eq_true_eq, decide_eq_false_iff_not, Bool.not_eq_true', Bool.not_eq_false', Bool.and_eq_true, Bool.or_eq_true, Bool.and_eq_false_iff, Bool.or_eq_false_iff, beq_iff_eq, bne_iff_ne, beq_eq_false_iff_ne, bne_eq_false_iff_eq, ne_eq, Decidable.not_not, Bool.decide_eq_true] at h3_
          refine dw_gno rfl rfl rfl rfl rfl rfl ?_
          refine dw_gno rfl rfl rfl rfl rfl rfl ?_
          refine dw_gno rfl rfl rfl rfl rfl rfl ?_
          refine dw_gno rfl rfl rfl rfl rfl rfl ?_
          refine dw_gno rfl rfl rfl rfl rfl rfl ?_
          refine dw_gno rfl rfl rfl rfl rfl rfl ?_
          refine dw_gno rfl rfl rfl rfl rfl rfl ?_
          refine dw_gno rfl rfl rfl rfl rfl rfl ?_
          refine dw_opd rfl rfl rfl (ao_pickT rfl (v := .bool _) rfl) ?_
          refine dw_end ?_
          refine al_nilT ?_
          refine aw_condT (by rfl) ⟨_, rfl⟩ ?_
          refine aw_seq ?_
          refine aw_region ?_
          refine al_opd rfl rfl rfl (ao_mv (v := .int _ _) rfl) ?_
          refine al_opd rfl rfl rfl (ao_as (v := .int _ _) rfl) ?_
          refine al_opd rfl rfl rfl (ao_as (v := .int _ _) rfl) ?_
          refine al_nilT ?_
          refine aw_ret ?_
          refine thenA_r ?_
          refine blockA_r ?_
          refine thenA_r ?_
          refine thenA_r ?_
          refine blockA_r ?_
          refine thenA_r ?_
          refine ends2 rfl (rv_tmp (v := .int _ _) rfl) (rv_tmp (v := .int _ _) rfl) ?_
          exact ⟨faultV_hit (firstAt_hit hr (by omega) (fun e => by have := (List.getElem?_eq_some_iff.mp e).1; omega) hm), by (repeat (first | exact Same.refl _ _ | assumption | refine Same.push ?_ (by (first | exact Nat.le_refl _ | omega | (simp only [next_push, next_set, next_kill]; omega))) _ | refine Same.set ?_ (by (first | exact Nat.le_refl _ | omega | (simp only [next_push, next_set, next_kill]; omega))) _ | refine Same.kill ?_ (by (first | exact Nat.le_refl _ | omega | (simp only [next_push, next_set, next_kill]; omega)))))⟩
        · try simp only [decide_eq_true_eq, decide_eq_false_iff_not, Bool.not_eq_true', Bool.not_eq_false', Bool.and_eq_true, Bool.or_eq_true, Bool.and_eq_false_iff, Bool.or_eq_false_iff, beq_iff_eq, bne_iff_ne, beq_eq_false_iff_ne, bne_eq_false_iff_eq, ne_eq, Decidable.not_not, Bool.decide_eq_true] at h3_
          obtain ⟨z, hz⟩ := get_lt (show i < sd.length by omega)
          first | refine dw_gyes rfl rfl rfl rfl rfl (ao_mv (v := .slice _ _ _) rfl) ?_ | refine dw_gyes rfl rfl rfl rfl rfl (ao_mv (v := v) rfl) ?_ | refine dw_gyes rfl rfl rfl rfl rfl (ao_mv (v := y) rfl) ?_
          refine dw_gyes rfl rfl rfl rfl rfl (ao_mv (v := .int _ _) rfl) ?_
          first | refine dw_gyes rfl rfl rfl rfl rfl (ao_indexAddrS Try.underlying67 Try.sizeOf101 rfl rfl (by first | omega | decide | (simp; omega)) (by first | omega | decide | (simp; omega))) ?_ | refine dw_gyes rfl rfl rfl rfl rfl (ao_indexV Try.underlying67 Try.sizeOf101 rfl rfl hh (by first | omega | decide | (simp; omega)) (by first | omega | decide | (simp; omega))) ?_ | refine dw_gyes rfl rfl rfl rfl rfl (ao_indexV Try.underlying67 Try.sizeOf101 rfl rfl hy (by first | omega | decide | (simp; omega)) (by first | omega | decide | (simp; omega))) ?_ | refine dw_gyes rfl rfl rfl rfl rfl (ao_indexV Try.underlying67 Try.sizeOf101 rfl rfl hy' (by first | omega | decide | (simp; omega)) (by first | omega | decide | (simp; omega))) ?_
          first | refine dw_gyes rfl rfl rfl rfl rfl (ao_loada Try.isAgg101 Try.sizeOf101 rfl (by ((repeat (first | exact blk_push_new _ _ | assumption | apply blk_push_old | apply blk_set_same | refine (blk_set_ne (by first | assumption | omega | (simp only [next_push, next_set, next_kill, ne_eq]; omega))).trans ?_ | refine (blk_kill_ne (by first | assumption | omega | (simp only [next_push, next_set, next_kill, ne_eq]; omega))).trans ?_)); (first | done | fail))) (by rfl) (by first | rfl | (simp; (first | done | fail)))) ?_ | refine dw_gyes rfl rfl rfl rfl rfl (ao_loadsV (A := #[.int _ _, .int _ _]) Try.isAgg101 Try.sizeOf101 hh rfl hx rfl (by decide)) ?_ | refine dw_gyes rfl rfl rfl rfl rfl (ao_loadsV (A := #[.int _ _, .int _ _]) Try.isAgg101 Try.sizeOf101 hh rfl hz rfl (by decide)) ?_ | refine dw_gyes rfl rfl rfl rfl rfl (ao_loadsV (A := #[.int _ _, .int _ _]) Try.isAgg101 Try.sizeOf101 hy rfl hx rfl (by decide)) ?_ | refine dw_gyes rfl rfl rfl rfl rfl (ao_loadsV (A := #[.int _ _, .int _ _]) Try.isAgg101 Try.sizeOf101 hy rfl hz rfl (by decide)) ?_ | refine dw_gyes rfl rfl rfl rfl rfl (ao_loadsV (A := #[.int _ _, .int _ _]) Try.isAgg101 Try.sizeOf101 hy' rfl hx rfl (by decide)) ?_ | refine dw_gyes rfl rfl rfl rfl rfl (ao_loadsV (A := #[.int _ _, .int _ _]) Try.isAgg101 Try.sizeOf101 hy' rfl hz rfl (by decide)) ?_
          first | refine dw_gyes rfl rfl rfl rfl rfl (ao_loada Try.isAgg101 Try.sizeOf101 rfl (by ((repeat (first | exact blk_push_new _ _ | assumption | apply blk_push_old | apply blk_set_same | refine (blk_set_ne (by first | assumption | omega | (simp only [next_push, next_set, next_kill, ne_eq]; omega))).trans ?_ | refine (blk_kill_ne (by first | assumption | omega | (simp only [next_push, next_set, next_kill, ne_eq]; omega))).trans ?_)); (first | done | fail))) (by rfl) (by first | rfl | (simp; (first | done | fail)))) ?_ | refine dw_gyes rfl rfl rfl rfl rfl (ao_loadsV (A := #[.int _ _, .int _ _]) Try.isAgg101 Try.sizeOf101 hh rfl hx rfl (by decide)) ?_ | refine dw_gyes rfl rfl rfl rfl rfl (ao_loadsV (A := #[.int _ _, .int _ _]) Try.isAgg101 Try.sizeOf101 hh rfl hz rfl (by decide)) ?_ | refine dw_gyes rfl rfl rfl rfl rfl (ao_loadsV (A := #[.int _ _, .int _ _]) Try.isAgg101 Try.sizeOf101 hy rfl hx rfl (by decide)) ?_ | refine dw_gyes rfl rfl rfl rfl rfl (ao_loadsV (A := #[.int _ _, .int _ _]) Try.isAgg101 Try.sizeOf101 hy rfl hz rfl (by decide)) ?_ | refine dw_gyes rfl rfl rfl rfl rfl (ao_loadsV (A := #[.int _ _, .int _ _]) Try.isAgg101 Try.sizeOf101 hy' rfl hx rfl (by decide)) ?_ | refine dw_gyes rfl rfl rfl rfl rfl (ao_loadsV (A := #[.int _ _, .int _ _]) Try.isAgg101 Try.sizeOf101 hy' rfl hz rfl (by decide)) ?_
          first | refine dw_gyes rfl rfl rfl rfl rfl (ao_loada Try.isAgg81 Try.sizeOf81 rfl (by ((repeat (first | exact blk_push_new _ _ | assumption | apply blk_push_old | apply blk_set_same | refine (blk_set_ne (by first | assumption | omega | (simp only [next_push, next_set, next_kill, ne_eq]; omega))).trans ?_ | refine (blk_kill_ne (by first | assumption | omega | (simp only [next_push, next_set, next_kill, ne_eq]; omega))).trans ?_)); (first | done | fail))) (by rfl) (by first | rfl | (simp; (first | done | fail)))) ?_ | refine dw_gyes rfl rfl rfl rfl rfl (ao_loadsV (A := #[.int _ _, .int _ _]) Try.isAgg81 Try.sizeOf81 hh rfl hx rfl (by decide)) ?_ | refine dw_gyes rfl rfl rfl rfl rfl (ao_loadsV (A := #[.int _ _, .int _ _]) Try.isAgg81 Try.sizeOf81 hh rfl hz rfl (by decide)) ?_ | refine dw_gyes rfl rfl rfl rfl rfl (ao_loadsV (A := #[.int _ _, .int _ _]) Try.isAgg81 Try.sizeOf81 hy rfl hx rfl (by decide)) ?_ | refine dw_gyes rfl rfl rfl rfl rfl (ao_loadsV (A := #[.int _ _, .int _ _]) Try.isAgg81 Try.sizeOf81 hy rfl hz rfl (by decide)) ?_ | refine dw_gyes rfl rfl rfl rfl rfl (ao_loadsV (A := #[.int _ _, .int _ _]) Try.isAgg81 Try.sizeOf81 hy' rfl hx rfl (by decide)) ?_ | refine dw_gyes rfl rfl rfl rfl rfl (ao_loadsV (A := #[.int _ _, .int _ _]) Try.isAgg81 Try.sizeOf81 hy' rfl hz rfl (by decide)) ?_
          refine dw_gyes rfl rfl rfl rfl rfl (ao_calld (follows_c (s := countS hs i) (x := x) (by omega) hwx) Try.call94 rfl rfl) ?_
          refine dw_gyes rfl rfl rfl rfl rfl ((ao_neV Try.eqGuardType101 rfl rfl rfl rfl (eqS101 _ _ _ _)).val (congrArg (fun b => Value.bool (!b)) (said_eq z (nextS (countS hs i) x.who)))) ?_
          refine dw_opd rfl rfl rfl (ao_pickF rfl (v := .bool _) rfl) ?_
          refine dw_end ?_
          refine al_nilT ?_
          refine aw_cond rfl (fun h4_ => ?_) (fun h4_ => ?_)
          · try simp only [decide_eq_true_eq, decide_eq_false_iff_not, Bool.not_eq_true', Bool.not_eq_false', Bool.and_eq_true, Bool.or_eq_true, Bool.and_eq_false_iff, Bool.or_eq_false_iff, beq_iff_eq, bne_iff_ne, beq_eq_false_iff_ne, bne_eq_false_iff_eq, ne_eq, Decidable.not_not, Bool.decide_eq_true] at h4_
            refine aw_seq ?_
            refine aw_region ?_
            refine al_opd rfl rfl rfl (ao_mv (v := .int _ _) rfl) ?_
            refine al_opd rfl rfl rfl (ao_as (v := .int _ _) rfl) ?_
            refine al_opd rfl rfl rfl (ao_as (v := .int _ _) rfl) ?_
            refine al_nilT ?_
            refine aw_ret ?_
            refine thenA_r ?_
            refine blockA_r ?_
            refine thenA_r ?_
            refine thenA_r ?_
            refine blockA_r ?_
            refine thenA_r ?_
            refine ends2 rfl (rv_tmp (v := .int _ _) rfl) (rv_tmp (v := .int _ _) rfl) ?_
            exact ⟨faultV_hit (firstAt_hit hr (by omega) (fun e => by rw [hz] at e; cases e; first | exact absurd (countS_at hx) h4_ | exact absurd (countS_at hx).symm h4_) hm), by (repeat (first | exact Same.refl _ _ | assumption | refine Same.push ?_ (by (first | exact Nat.le_refl _ | omega | (simp only [next_push, next_set, next_kill]; omega))) _ | refine Same.set ?_ (by (first | exact Nat.le_refl _ | omega | (simp only [next_push, next_set, next_kill]; omega))) _ | refine Same.kill ?_ (by (first | exact Nat.le_refl _ | omega | (simp only [next_push, next_set, next_kill]; omega)))))⟩
          · try simp only [decide_eq_true_eq, decide_eq_false_iff_not, Bool.not_eq_true', Bool.not_eq_false', Bool.and_eq_true, Bool.or_eq_true, Bool.and_eq_false_iff, Bool.or_eq_false_iff, beq_iff_eq, bne_iff_ne, beq_eq_false_iff_ne, bne_eq_false_iff_eq, ne_eq, Decidable.not_not, Bool.decide_eq_true] at h4_
            have hzc : z = countS hs (i + 1) := by have := countS_at hx; simp_all
            refine aw_skipT ?_
            refine aw_region ?_
            first | refine al_opd rfl rfl rfl (ao_mv (v := .slice _ _ _) rfl) ?_ | refine al_opd rfl rfl rfl (ao_mv (v := v) rfl) ?_ | refine al_opd rfl rfl rfl (ao_mv (v := y) rfl) ?_
            refine al_opd rfl rfl rfl (ao_mv (v := .int _ _) rfl) ?_
            first | refine al_opd rfl rfl rfl (ao_indexAddrS Try.underlying67 Try.sizeOf101 rfl rfl (by first | omega | decide | (simp; omega)) (by first | omega | decide | (simp; omega))) ?_ | refine al_opd rfl rfl rfl (ao_indexV Try.underlying67 Try.sizeOf101 rfl rfl hh (by first | omega | decide | (simp; omega)) (by first | omega | decide | (simp; omega))) ?_ | refine al_opd rfl rfl rfl (ao_indexV Try.underlying67 Try.sizeOf101 rfl rfl hy (by first | omega | decide | (simp; omega)) (by first | omega | decide | (simp; omega))) ?_ | refine al_opd rfl rfl rfl (ao_indexV Try.underlying67 Try.sizeOf101 rfl rfl hy' (by first | omega | decide | (simp; omega)) (by first | omega | decide | (simp; omega))) ?_
            first | refine al_opd rfl rfl rfl (ao_loada Try.isAgg101 Try.sizeOf101 rfl (by ((repeat (first | exact blk_push_new _ _ | assumption | apply blk_push_old | apply blk_set_same | refine (blk_set_ne (by first | assumption | omega | (simp only [next_push, next_set, next_kill, ne_eq]; omega))).trans ?_ | refine (blk_kill_ne (by first | assumption | omega | (simp only [next_push, next_set, next_kill, ne_eq]; omega))).trans ?_)); (first | done | fail))) (by rfl) (by first | rfl | (simp; (first | done | fail)))) ?_ | refine al_opd rfl rfl rfl (ao_loadsV (A := #[.int _ _, .int _ _]) Try.isAgg101 Try.sizeOf101 hh rfl hx rfl (by decide)) ?_ | refine al_opd rfl rfl rfl (ao_loadsV (A := #[.int _ _, .int _ _]) Try.isAgg101 Try.sizeOf101 hh rfl hz rfl (by decide)) ?_ | refine al_opd rfl rfl rfl (ao_loadsV (A := #[.int _ _, .int _ _]) Try.isAgg101 Try.sizeOf101 hy rfl hx rfl (by decide)) ?_ | refine al_opd rfl rfl rfl (ao_loadsV (A := #[.int _ _, .int _ _]) Try.isAgg101 Try.sizeOf101 hy rfl hz rfl (by decide)) ?_ | refine al_opd rfl rfl rfl (ao_loadsV (A := #[.int _ _, .int _ _]) Try.isAgg101 Try.sizeOf101 hy' rfl hx rfl (by decide)) ?_ | refine al_opd rfl rfl rfl (ao_loadsV (A := #[.int _ _, .int _ _]) Try.isAgg101 Try.sizeOf101 hy' rfl hz rfl (by decide)) ?_
            first | refine al_opd rfl rfl rfl ((ao_storeL Try.sizeOf101 (by rfl) (by rfl) (by ((repeat (first | exact blk_push_new _ _ | assumption | apply blk_push_old | apply blk_set_same | refine (blk_set_ne (by first | assumption | omega | (simp only [next_push, next_set, next_kill, ne_eq]; omega))).trans ?_ | refine (blk_kill_ne (by first | assumption | omega | (simp only [next_push, next_set, next_kill, ne_eq]; omega))).trans ?_)); (first | done | fail))) (by first | rfl | (simp; (first | done | fail))) (by first | rfl | (simp; (first | done | fail))) (by first | rfl | (simp; (first | done | fail)))).to (SetR.eq (by (repeat (first | exact SetR.new | exact SetR.same | (apply SetR.old; · exact ⟨_, by ((repeat (first | exact blk_push_new _ _ | assumption | apply blk_push_old | apply blk_set_same | refine (blk_set_ne (by first | assumption | omega | (simp only [next_push, next_set, next_kill, ne_eq]; omega))).trans ?_ | refine (blk_kill_ne (by first | assumption | omega | (simp only [next_push, next_set, next_kill, ne_eq]; omega))).trans ?_)); (first | done | fail))⟩) | exact SetR.base))))) ?_ | refine al_opd rfl rfl rfl ((ao_storeP (ds := [.int _ _, .int _ _]) Try.sizeOf101 (by rfl) (by rfl) (by ((repeat (first | exact blk_push_new _ _ | assumption | apply blk_push_old | apply blk_set_same | refine (blk_set_ne (by first | assumption | omega | (simp only [next_push, next_set, next_kill, ne_eq]; omega))).trans ?_ | refine (blk_kill_ne (by first | assumption | omega | (simp only [next_push, next_set, next_kill, ne_eq]; omega))).trans ?_)); (first | done | fail))) (by first | rfl | (simp; (first | done | fail))) (by first | rfl | (simp; (first | done | fail))) (by first | decide | (simp; (first | done | fail)) | (simp; omega))).to (SetR.eq (by (repeat (first | exact SetR.new | exact SetR.same | (apply SetR.old; · exact ⟨_, by ((repeat (first | exact blk_push_new _ _ | assumption | apply blk_push_old | apply blk_set_same | refine (blk_set_ne (by first | assumption | omega | (simp only [next_push, next_set, next_kill, ne_eq]; omega))).trans ?_ | refine (blk_kill_ne (by first | assumption | omega | (simp only [next_push, next_set, next_kill, ne_eq]; omega))).trans ?_)); (first | done | fail))⟩) | exact SetR.base))))) ?_
            refine al_nilB ?_
            refine thenA_n ?_
            refine aw_region ?_
            first | refine al_opd rfl rfl rfl ((ao_add rfl rfl).val (nw_i64 (by first | omega | decide) (by first | omega | decide))) ?_ | refine al_opd rfl rfl rfl (ao_add rfl rfl) ?_
            refine al_opd rfl rfl rfl (ao_mv (v := .int _ _) rfl) ?_
            refine al_nilT ?_
            refine ⟨_, ?_, _, rfl, i + 1, by omega, rfl, by (repeat (first | exact Same.refl _ _ | assumption | refine Same.push ?_ (by (first | exact Nat.le_refl _ | omega | (simp only [next_push, next_set, next_kill]; omega))) _ | refine Same.set ?_ (by (first | exact Nat.le_refl _ | omega | (simp only [next_push, next_set, next_kill]; omega))) _ | refine Same.kill ?_ (by (first | exact Nat.le_refl _ | omega | (simp only [next_push, next_set, next_kill]; omega))))), by (first | exact Nat.le_refl _ | omega | (simp only [next_push, next_set, next_kill]; omega)), ?_, fun j hj => ?_, rfl, rfl, rfl, by rfl, rfl, rfl⟩
            · omega
            · rw [← hzc]; exact (by ((repeat (first | exact blk_push_new _ _ | assumption | apply blk_push_old | apply blk_set_same | refine (blk_set_ne (by first | assumption | omega | (simp only [next_push, next_set, next_kill, ne_eq]; omega))).trans ?_ | refine (blk_kill_ne (by first | assumption | omega | (simp only [next_push, next_set, next_kill, ne_eq]; omega))).trans ?_)); (first | done | fail)))
            · rcases Nat.lt_or_ge j i with h9 | h9
              · exact hm j h9
              · obtain rfl : j = i := by omega
                exact fun hf => hf (by rw [hz, hzc])
      · try simp only [decide_eq_true_eq, decide_eq_false_iff_not, Bool.not_eq_true', Bool.not_eq_false', Bool.and_eq_true, Bool.or_eq_true, Bool.and_eq_false_iff, Bool.or_eq_false_iff, beq_iff_eq, bne_iff_ne, beq_eq_false_iff_ne, bne_eq_false_iff_eq, ne_eq, Decidable.not_not, Bool.decide_eq_true] at h2_
        refine aw_exit ?_
        refine thenA_x ?_
        refine thenA_x ?_
        refine blockA_hit ?_
        refine thenA_n ?_
        refine aw_seq ?_
        refine aw_seq ?_
        refine aw_region ?_
        first | refine al_opd rfl rfl rfl (ao_mv (v := .slice _ _ _) rfl) ?_ | refine al_opd rfl rfl rfl (ao_mv (v := v) rfl) ?_ | refine al_opd rfl rfl rfl (ao_mv (v := y) rfl) ?_
        first | refine al_opd rfl rfl rfl (ao_lenS Try.underlying67 (by rfl)) ?_ | refine al_opd rfl rfl rfl (ao_lenN Try.underlying67 (by rfl)) ?_ | refine al_opd rfl rfl rfl (ao_lenV Try.underlying67 rfl hh) ?_ | refine al_opd rfl rfl rfl (ao_lenV Try.underlying67 rfl hy) ?_ | refine al_opd rfl rfl rfl (ao_lenV Try.underlying67 rfl hy') ?_
        first | refine al_opd rfl rfl rfl (ao_mv (v := .slice _ _ _) rfl) ?_ | refine al_opd rfl rfl rfl (ao_mv (v := v) rfl) ?_ | refine al_opd rfl rfl rfl (ao_mv (v := y) rfl) ?_
        first | refine al_opd rfl rfl rfl (ao_lenS Try.underlying28 (by rfl)) ?_ | refine al_opd rfl rfl rfl (ao_lenN Try.underlying28 (by rfl)) ?_ | refine al_opd rfl rfl rfl (ao_lenV Try.underlying28 rfl hh) ?_ | refine al_opd rfl rfl rfl (ao_lenV Try.underlying28 rfl hy) ?_ | refine al_opd rfl rfl rfl (ao_lenV Try.underlying28 rfl hy') ?_
        refine al_opd rfl rfl rfl (ao_gtr rfl rfl) ?_
        refine al_nilT ?_
        refine aw_cond rfl (fun h5_ => ?_) (fun h5_ => ?_)
        · try simp only [decide_eq_true_eq, decide_eq_false_iff_not, Bool.not_eq_true', Bool.not_eq_false', Bool.and_eq_true, Bool.or_eq_true, Bool.and_eq_false_iff, Bool.or_eq_false_iff, beq_iff_eq, bne_iff_ne, beq_eq_false_iff_ne, bne_eq_false_iff_eq, ne_eq, Decidable.not_not, Bool.decide_eq_true] at h5_
          refine aw_seq ?_
          refine aw_region ?_
          first | refine al_opd rfl rfl rfl (ao_mv (v := .slice _ _ _) rfl) ?_ | refine al_opd rfl rfl rfl (ao_mv (v := v) rfl) ?_ | refine al_opd rfl rfl rfl (ao_mv (v := y) rfl) ?_
          refine al_opd rfl rfl rfl (ao_calld (sizeHold_c (v := .slice (some ⟨lb, 0, none⟩) hs.length c) (l := hs) hh) Try.call90 rfl rfl) ?_
          refine al_opd rfl rfl rfl (ao_as (v := .int _ _) rfl) ?_
          refine al_opd rfl rfl rfl (ao_as (v := .int _ _) rfl) ?_
          refine al_nilT ?_
          refine aw_ret ?_
          refine thenA_r ?_
          refine ends2 rfl (rv_tmp (v := .int _ _) rfl) (rv_tmp (v := .int _ _) rfl) ?_
          exact ⟨faultV_more (firstAt_none hr (fun j hj => hm j (by omega))) (by omega), by (repeat (first | exact Same.refl _ _ | assumption | refine Same.push ?_ (by (first | exact Nat.le_refl _ | omega | (simp only [next_push, next_set, next_kill]; omega))) _ | refine Same.set ?_ (by (first | exact Nat.le_refl _ | omega | (simp only [next_push, next_set, next_kill]; omega))) _ | refine Same.kill ?_ (by (first | exact Nat.le_refl _ | omega | (simp only [next_push, next_set, next_kill]; omega)))))⟩
        · try simp only [decide_eq_true_eq, decide_eq_false_iff_not, Bool.not_eq_true', Bool.not_eq_false', Bool.and_eq_true, Bool.or_eq_true, Bool.and_eq_false_iff, Bool.or_eq_false_iff, beq_iff_eq, bne_iff_ne, beq_eq_false_iff_ne, bne_eq_false_iff_eq, ne_eq, Decidable.not_not, Bool.decide_eq_true] at h5_
          refine aw_skipT ?_
          refine aw_seq ?_
          refine aw_region ?_
          refine al_opd rfl rfl rfl (ao_as (v := .int _ _) rfl) ?_
          refine al_opd rfl rfl rfl (ao_as (v := .int _ _) rfl) ?_
          refine al_nilT ?_
          refine aw_ret ?_
          refine ends2 rfl (rv_tmp (v := .int _ _) rfl) (rv_tmp (v := .int _ _) rfl) ?_
          exact ⟨faultV_none (firstAt_none hr (fun j hj => hm j (by omega))) (by omega), by (repeat (first | exact Same.refl _ _ | assumption | refine Same.push ?_ (by (first | exact Nat.le_refl _ | omega | (simp only [next_push, next_set, next_kill]; omega))) _ | refine Same.set ?_ (by (first | exact Nat.le_refl _ | omega | (simp only [next_push, next_set, next_kill]; omega))) _ | refine Same.kill ?_ (by (first | exact Nat.le_refl _ | omega | (simp only [next_push, next_set, next_kill]; omega)))))⟩

-- impl.FirstFault
theorem implFault0_c {L : Int} {v : Value} {ks : List Int} {hs : List Hold} {lb c : Nat} {y : Value} {sd : List Said} {H : AHeap} (ha0 : Sl H i16 1 v ks) (hk0 : H.blk lb = some (.cells (fl hold hs) 2)) (hcc : hs.length ≤ c) (hlen : ks.length ≤ 4194304) (hn : hs.length ≤ 4194304) (hL : -32768 ≤ L ∧ L ≤ 32767) (hw : holdOk hs) (hy0 : Sl H said 2 y sd) (hd : sd.length ≤ 4194304) (hv : ¬ (okRope L ks ∧ okHolds ks.length hs)) : ACd Try.prog 59 [.agg #[.int .i16 L, v], .slice (some ⟨lb, 0, none⟩) hs.length c, y] H (.tuple #[.int .i64 0, .int .i64 1]) (H) := by
  have hh0 : Sl H hold 2 (.slice (some ⟨lb, 0, none⟩) hs.length c) hs := Sl.full hold_len hk0 rfl rfl rfl
  have hlt0 := AHeap.lt hk0
  refine ac_gc0 (fun β => VR.plainT β (by first | rfl | simp [plainT, plainV, plain1])) (ac_body Try.func59 rfl Try.ntmps59 rfl ?_)
  refine aw_seq ?_
  refine aw_region ?_
  refine al_opd rfl rfl rfl (ao_boxa (by rfl)) ?_
  refine al_opd rfl rfl rfl (ao_as (v := .int _ _) rfl) ?_
  refine al_opd rfl rfl rfl (ao_as (v := .int _ _) rfl) ?_
  refine al_nilT ?_
  refine aw_seq ?_
  refine aw_seq ?_
  refine aw_region ?_
  refine al_opd rfl rfl rfl (ao_loada Try.isAgg37 Try.sizeOf37 rfl (by ((repeat (first | exact blk_push_new _ _ | assumption | apply blk_push_old | apply blk_set_same | refine (blk_set_ne (by first | assumption | omega | (simp only [next_push, next_set, next_kill, ne_eq]; omega))).trans ?_ | refine (blk_kill_ne (by first | assumption | omega | (simp only [next_push, next_set, next_kill, ne_eq]; omega))).trans ?_)); (first | done | fail))) (by rfl) (by first | rfl | (simp; (first | done | fail)))) ?_
  first | refine al_opd rfl rfl rfl (ao_mv (v := .slice _ _ _) rfl) ?_ | refine al_opd rfl rfl rfl (ao_mv (v := v) rfl) ?_ | refine al_opd rfl rfl rfl (ao_mv (v := y) rfl) ?_
  refine al_opd rfl rfl rfl (ao_calld (implValidHolds_c (L := L) (v := v) (ks := ks) (hs := hs) (b := false) (ha0.mono (by (repeat (first | exact Same.refl _ _ | assumption | refine Same.push ?_ (by (first | exact Nat.le_refl _ | omega | (simp only [next_push, next_set, next_kill]; omega))) _ | refine Same.set ?_ (by (first | exact Nat.le_refl _ | omega | (simp only [next_push, next_set, next_kill]; omega))) _ | refine Same.kill ?_ (by (first | exact Nat.le_refl _ | omega | (simp only [next_push, next_set, next_kill]; omega))))))) (by ((repeat (first | exact blk_push_new _ _ | assumption | apply blk_push_old | apply blk_set_same | refine (blk_set_ne (by first | assumption | omega | (simp only [next_push, next_set, next_kill, ne_eq]; omega))).trans ?_ | refine (blk_kill_ne (by first | assumption | omega | (simp only [next_push, next_set, next_kill, ne_eq]; omega))).trans ?_)); (first | done | fail))) hlen hn hL hw (no hv)) Try.call47 rfl rfl) ?_
  refine al_opd rfl rfl rfl (ao_not rfl) ?_
  refine al_nilT ?_
  refine aw_cond rfl (fun h1_ => ?_) (fun h1_ => ?_)
  · try simp only [decide_eq_true_eq, decide_eq_false_iff_not, Bool.not_eq_true', Bool.not_eq_false', Bool.and_eq_true, Bool.or_eq_true, Bool.and_eq_false_iff, Bool.or_eq_false_iff, beq_iff_eq, bne_iff_ne, beq_eq_false_iff_ne, bne_eq_false_iff_eq, ne_eq, Decidable.not_not, Bool.decide_eq_true] at h1_
    refine aw_seq ?_
    refine aw_region ?_
    refine al_opd rfl rfl rfl (ao_as (v := .int _ _) rfl) ?_
    refine al_opd rfl rfl rfl (ao_as (v := .int _ _) rfl) ?_
    refine al_nilT ?_
    refine aw_ret ?_
    refine thenA_r ?_
    refine ends2 rfl (rv_tmp (v := .int _ _) rfl) (rv_tmp (v := .int _ _) rfl) ?_
    exact ⟨by first | rfl | (simp [*]; (first | done | fail)), by (repeat (first | exact Same.refl _ _ | assumption | refine Same.push ?_ (by (first | exact Nat.le_refl _ | omega | (simp only [next_push, next_set, next_kill]; omega))) _ | refine Same.set ?_ (by (first | exact Nat.le_refl _ | omega | (simp only [next_push, next_set, next_kill]; omega))) _ | refine Same.kill ?_ (by (first | exact Nat.le_refl _ | omega | (simp only [next_push, next_set, next_kill]; omega)))))⟩
  · try simp only [decide_eq_true_eq, decide_eq_false_iff_not, Bool.not_eq_true', Bool.not_eq_false', Bool.and_eq_true, Bool.or_eq_true, Bool.and_eq_false_iff, Bool.or_eq_false_iff, beq_iff_eq, bne_iff_ne, beq_eq_false_iff_ne, bne_eq_false_iff_eq, ne_eq, Decidable.not_not, Bool.decide_eq_true] at h1_
    first | done | omega | (exfalso; revert h1_; simp; (first | done | omega))

-- laws.FnExactFirstFault
theorem lawFault1_c {L : Int} {v u : Value} {l : List Int} {hs : List Hold} {y : Value} {sd : List Said} {H : AHeap} (ha : Sl H i16 1 v l) (hh : Sl H hold 2 u hs) (hl : l.length ≤ 9223372036854775807) (hm : hs.length ≤ 9223372036854775807) (hL : -32768 ≤ L ∧ L ≤ 32767) (hw : holdOk hs) (hy : Sl H said 2 y sd) (hd : sd.length ≤ 9223372036854775807) (hv : okRope L l ∧ okHolds l.length hs) : ACd Try.prog 16 [.agg #[.int .i16 L, v], u, y] H (.bool true) (H) := by
  obtain ⟨r, hr⟩ := exists_first (faultAt hs sd) hs.length
  refine ac_gc0 (fun β => VR.plainT β (by first | rfl | simp [plainT, plainV, plain1])) (ac_body Try.func16 rfl Try.ntmps16 rfl ?_)
  refine aw_seq ?_
  refine aw_region ?_
  refine al_opd rfl rfl rfl (ao_boxa (by rfl)) ?_
  refine al_opd rfl rfl rfl (ao_as (v := .bool _) rfl) ?_
  refine al_nilT ?_
  refine aw_seq ?_
  refine aw_region ?_
  refine al_opd rfl rfl rfl (ao_as (v := .int _ _) rfl) ?_
  refine al_nilT ?_
  refine aw_seq ?_
  refine aw_region ?_
  refine al_opd rfl rfl rfl (ao_loada Try.isAgg34 Try.sizeOf34 rfl (by ((repeat (first | exact blk_push_new _ _ | assumption | apply blk_push_old | apply blk_set_same | refine (blk_set_ne (by first | assumption | omega | (simp only [next_push, next_set, next_kill, ne_eq]; omega))).trans ?_ | refine (blk_kill_ne (by first | assumption | omega | (simp only [next_push, next_set, next_kill, ne_eq]; omega))).trans ?_)); (first | done | fail))) (by rfl) (by first | rfl | (simp; (first | done | fail)))) ?_
  refine al_opd rfl rfl rfl (ao_mv (v := .int _ _) rfl) ?_
  refine al_opd rfl rfl rfl (ao_calld (szRope_c (L := L) (v := v) (l := l) (k := 1048576) (ha.mono (by (repeat (first | exact Same.refl _ _ | assumption | refine Same.push ?_ (by (first | exact Nat.le_refl _ | omega | (simp only [next_push, next_set, next_kill]; omega))) _ | refine Same.set ?_ (by (first | exact Nat.le_refl _ | omega | (simp only [next_push, next_set, next_kill]; omega))) _ | refine Same.kill ?_ (by (first | exact Nat.le_refl _ | omega | (simp only [next_push, next_set, next_kill]; omega))))))) hl (by omega)) Try.call26 rfl rfl) ?_
  refine al_opd rfl rfl rfl (ao_as (v := .int _ _) rfl) ?_
  refine al_nilT ?_
  refine aw_seq ?_
  refine aw_seq ?_
  refine aw_region ?_
  refine al_opd rfl rfl rfl (ao_mv (v := .int _ _) rfl) ?_
  refine al_opd rfl rfl rfl (ao_lss rfl rfl) ?_
  refine al_nilT ?_
  refine aw_cond rfl (fun h1_ => ?_) (fun h1_ => ?_)
  · try simp only [decide_eq_true_eq, decide_eq_false_iff_not, Bool.not_eq_true', Bool.not_eq_false', Bool.and_eq_true, Bool.or_eq_true, Bool.and_eq_false_iff, Bool.or_eq_false_iff, beq_iff_eq, bne_iff_ne, beq_eq_false_iff_ne, bne_eq_false_iff_eq, ne_eq, Decidable.not_not, Bool.decide_eq_true] at h1_
    refine aw_seq ?_
    refine aw_region ?_
    refine al_opd rfl rfl rfl (ao_as (v := .bool _) rfl) ?_
    refine al_nilT ?_
    refine aw_ret ?_
    refine thenA_r ?_
    refine ends1 rfl (rv_tmp (v := .bool _) rfl) ?_
    exact ⟨by first | rfl | (simp [*]; (first | done | fail)), by (repeat (first | exact Same.refl _ _ | assumption | refine Same.push ?_ (by (first | exact Nat.le_refl _ | omega | (simp only [next_push, next_set, next_kill]; omega))) _ | refine Same.set ?_ (by (first | exact Nat.le_refl _ | omega | (simp only [next_push, next_set, next_kill]; omega))) _ | refine Same.kill ?_ (by (first | exact Nat.le_refl _ | omega | (simp only [next_push, next_set, next_kill]; omega)))))⟩
  · try simp only [decide_eq_true_eq, decide_eq_false_iff_not, Bool.not_eq_true', Bool.not_eq_false', Bool.and_eq_true, Bool.or_eq_true, Bool.and_eq_false_iff, Bool.or_eq_false_iff, beq_iff_eq, bne_iff_ne, beq_eq_false_iff_ne, bne_eq_false_iff_eq, ne_eq, Decidable.not_not, Bool.decide_eq_true] at h1_
    have hl1 : l.length ≤ 1048576 := by omega
    refine aw_skipT ?_
    refine aw_seq ?_
    refine aw_region ?_
    first | refine al_opd rfl rfl rfl (ao_mv (v := .slice _ _ _) rfl) ?_ | refine al_opd rfl rfl rfl (ao_mv (v := v) rfl) ?_ | refine al_opd rfl rfl rfl (ao_mv (v := u) rfl) ?_ | refine al_opd rfl rfl rfl (ao_mv (v := y) rfl) ?_
    refine al_opd rfl rfl rfl (ao_mv (v := .int _ _) rfl) ?_
    refine al_opd rfl rfl rfl (ao_calld (szHoldS_c (v := u) (l := hs) (k := if 1048576 - (l.length : Int) < 0 then -1 else 1048576 - l.length) (hh.mono (by (repeat (first | exact Same.refl _ _ | assumption | refine Same.push ?_ (by (first | exact Nat.le_refl _ | omega | (simp only [next_push, next_set, next_kill]; omega))) _ | refine Same.set ?_ (by (first | exact Nat.le_refl _ | omega | (simp only [next_push, next_set, next_kill]; omega))) _ | refine Same.kill ?_ (by (first | exact Nat.le_refl _ | omega | (simp only [next_push, next_set, next_kill]; omega))))))) hm (by omega)) Try.call21 rfl rfl) ?_
    refine al_opd rfl rfl rfl (ao_as (v := .int _ _) rfl) ?_
    refine al_nilT ?_
    refine aw_seq ?_
    refine aw_seq ?_
    refine aw_region ?_
    refine al_opd rfl rfl rfl (ao_mv (v := .int _ _) rfl) ?_
    refine al_opd rfl rfl rfl (ao_lss rfl rfl) ?_
    refine al_nilT ?_
    refine aw_cond rfl (fun h2_ => ?_) (fun h2_ => ?_)
    · try simp only [decide_eq_true_eq, decide_eq_false_iff_not, Bool.not_eq_true', Bool.not_eq_false', Bool.and_eq_true, Bool.or_eq_true, Bool.and_eq_false_iff, Bool.or_eq_false_iff, beq_iff_eq, bne_iff_ne, beq_eq_false_iff_ne, bne_eq_false_iff_eq, ne_eq, Decidable.not_not, Bool.decide_eq_true] at h2_
      refine aw_seq ?_
      refine aw_region ?_
      refine al_opd rfl rfl rfl (ao_as (v := .bool _) rfl) ?_
      refine al_nilT ?_
      refine aw_ret ?_
      refine thenA_r ?_
      refine ends1 rfl (rv_tmp (v := .bool _) rfl) ?_
      exact ⟨by first | rfl | (simp [*]; (first | done | fail)), by (repeat (first | exact Same.refl _ _ | assumption | refine Same.push ?_ (by (first | exact Nat.le_refl _ | omega | (simp only [next_push, next_set, next_kill]; omega))) _ | refine Same.set ?_ (by (first | exact Nat.le_refl _ | omega | (simp only [next_push, next_set, next_kill]; omega))) _ | refine Same.kill ?_ (by (first | exact Nat.le_refl _ | omega | (simp only [next_push, next_set, next_kill]; omega)))))⟩
    · try simp only [decide_eq_true_eq, decide_eq_false_iff_not, Bool.not_eq_true', Bool.not_eq_false', Bool.and_eq_true, Bool.or_eq_true, Bool.and_eq_false_iff, Bool.or_eq_false_iff, beq_iff_eq, bne_iff_ne, beq_eq_false_iff_ne, bne_eq_false_iff_eq, ne_eq, Decidable.not_not, Bool.decide_eq_true] at h2_
      have hm1 : hs.length ≤ 1048576 := by omega
      refine aw_skipT ?_
      refine aw_seq ?_
      refine aw_region ?_
      first | refine al_opd rfl rfl rfl (ao_mv (v := .slice _ _ _) rfl) ?_ | refine al_opd rfl rfl rfl (ao_mv (v := v) rfl) ?_ | refine al_opd rfl rfl rfl (ao_mv (v := u) rfl) ?_ | refine al_opd rfl rfl rfl (ao_mv (v := y) rfl) ?_
      refine al_opd rfl rfl rfl (ao_mv (v := .int _ _) rfl) ?_
      refine al_opd rfl rfl rfl (ao_calld (szSaidS_c (v := y) (l := sd) (k := (if (if (1048576 : Int) - (l.length : Int) < 0 then (-1 : Int) else (1048576 : Int) - (l.length : Int)) - (hs.length : Int) < 0 then (-1 : Int) else (if (1048576 : Int) - (l.length : Int) < 0 then (-1 : Int) else (1048576 : Int) - (l.length : Int)) - (hs.length : Int))) (hy.mono (by (repeat (first | exact Same.refl _ _ | assumption | refine Same.push ?_ (by (first | exact Nat.le_refl _ | omega | (simp only [next_push, next_set, next_kill]; omega))) _ | refine Same.set ?_ (by (first | exact Nat.le_refl _ | omega | (simp only [next_push, next_set, next_kill]; omega))) _ | refine Same.kill ?_ (by (first | exact Nat.le_refl _ | omega | (simp only [next_push, next_set, next_kill]; omega))))))) hd (by omega)) Try.call56 rfl rfl) ?_
      refine al_opd rfl rfl rfl (ao_as (v := .int _ _) rfl) ?_
      refine al_nilT ?_
      refine aw_seq ?_
      refine aw_seq ?_
      refine aw_region ?_
      refine al_opd rfl rfl rfl (ao_mv (v := .int _ _) rfl) ?_
      refine al_opd rfl rfl rfl (ao_lss rfl rfl) ?_
      refine al_nilT ?_
      refine aw_cond rfl (fun h3_ => ?_) (fun h3_ => ?_)
      · try simp only [decide_eq_true_eq, decide_eq_false_iff_not, Bool.not_eq_true', Bool.not_eq_false', Bool.and_eq_true, Bool.or_eq_true, Bool.and_eq_false_iff, Bool.or_eq_false_iff, beq_iff_eq, bne_iff_ne, beq_eq_false_iff_ne, bne_eq_false_iff_eq, ne_eq, Decidable.not_not, Bool.decide_eq_true] at h3_
        refine aw_seq ?_
        refine aw_region ?_
        refine al_opd rfl rfl rfl (ao_as (v := .bool _) rfl) ?_
        refine al_nilT ?_
        refine aw_ret ?_
        refine thenA_r ?_
        refine ends1 rfl (rv_tmp (v := .bool _) rfl) ?_
        exact ⟨by first | rfl | (simp [*]; (first | done | fail)), by (repeat (first | exact Same.refl _ _ | assumption | refine Same.push ?_ (by (first | exact Nat.le_refl _ | omega | (simp only [next_push, next_set, next_kill]; omega))) _ | refine Same.set ?_ (by (first | exact Nat.le_refl _ | omega | (simp only [next_push, next_set, next_kill]; omega))) _ | refine Same.kill ?_ (by (first | exact Nat.le_refl _ | omega | (simp only [next_push, next_set, next_kill]; omega)))))⟩
      · try simp only [decide_eq_true_eq, decide_eq_false_iff_not, Bool.not_eq_true', Bool.not_eq_false', Bool.and_eq_true, Bool.or_eq_true, Bool.and_eq_false_iff, Bool.or_eq_false_iff, beq_iff_eq, bne_iff_ne, beq_eq_false_iff_ne, bne_eq_false_iff_eq, ne_eq, Decidable.not_not, Bool.decide_eq_true] at h3_
        have hd1 : sd.length ≤ 1048576 := by omega
        refine aw_skipT ?_
        refine aw_seq ?_
        refine aw_region ?_
        refine al_opd rfl rfl rfl (ao_loada Try.isAgg34 Try.sizeOf34 rfl (by ((repeat (first | exact blk_push_new _ _ | assumption | apply blk_push_old | apply blk_set_same | refine (blk_set_ne (by first | assumption | omega | (simp only [next_push, next_set, next_kill, ne_eq]; omega))).trans ?_ | refine (blk_kill_ne (by first | assumption | omega | (simp only [next_push, next_set, next_kill, ne_eq]; omega))).trans ?_)); (first | done | fail))) (by rfl) (by first | rfl | (simp; (first | done | fail)))) ?_
        refine al_opd rfl rfl rfl (ao_calld (toRope_c (L := L) (v := v) (l := l) (ha.mono (by (repeat (first | exact Same.refl _ _ | assumption | refine Same.push ?_ (by (first | exact Nat.le_refl _ | omega | (simp only [next_push, next_set, next_kill]; omega))) _ | refine Same.set ?_ (by (first | exact Nat.le_refl _ | omega | (simp only [next_push, next_set, next_kill]; omega))) _ | refine Same.kill ?_ (by (first | exact Nat.le_refl _ | omega | (simp only [next_push, next_set, next_kill]; omega))))))) (by omega)) Try.call28 rfl rfl) ?_
        first | refine al_opd rfl rfl rfl (ao_mv (v := .slice _ _ _) rfl) ?_ | refine al_opd rfl rfl rfl (ao_mv (v := v) rfl) ?_ | refine al_opd rfl rfl rfl (ao_mv (v := u) rfl) ?_ | refine al_opd rfl rfl rfl (ao_mv (v := y) rfl) ?_
        refine al_opd rfl rfl rfl (ao_calld (toHoldS_c (v := u) (l := hs) (hh.mono (by (repeat (first | exact Same.refl _ _ | assumption | refine Same.push ?_ (by (first | exact Nat.le_refl _ | omega | (simp only [next_push, next_set, next_kill]; omega))) _ | refine Same.set ?_ (by (first | exact Nat.le_refl _ | omega | (simp only [next_push, next_set, next_kill]; omega))) _ | refine Same.kill ?_ (by (first | exact Nat.le_refl _ | omega | (simp only [next_push, next_set, next_kill]; omega))))))) (by omega)) Try.call23 rfl rfl) ?_
        first | refine al_opd rfl rfl rfl (ao_mv (v := .slice _ _ _) rfl) ?_ | refine al_opd rfl rfl rfl (ao_mv (v := v) rfl) ?_ | refine al_opd rfl rfl rfl (ao_mv (v := u) rfl) ?_ | refine al_opd rfl rfl rfl (ao_mv (v := y) rfl) ?_
        refine al_opd rfl rfl rfl (ao_calld (toSaidS_c (v := y) (l := sd) (hy.mono (by (repeat (first | exact Same.refl _ _ | assumption | refine Same.push ?_ (by (first | exact Nat.le_refl _ | omega | (simp only [next_push, next_set, next_kill]; omega))) _ | refine Same.set ?_ (by (first | exact Nat.le_refl _ | omega | (simp only [next_push, next_set, next_kill]; omega))) _ | refine Same.kill ?_ (by (first | exact Nat.le_refl _ | omega | (simp only [next_push, next_set, next_kill]; omega))))))) (by omega)) Try.call58 rfl rfl) ?_
        refine al_opd rfl rfl rfl (ao_calld (specFault1_c (L := L) (ks := l) (hs := hs) (sd := sd) (Sl.full i16_len (by ((repeat (first | exact blk_push_new _ _ | assumption | apply blk_push_old | apply blk_set_same | refine (blk_set_ne (by first | assumption | omega | (simp only [next_push, next_set, next_kill, ne_eq]; omega))).trans ?_ | refine (blk_kill_ne (by first | assumption | omega | (simp only [next_push, next_set, next_kill, ne_eq]; omega))).trans ?_)); (first | done | fail))) rfl rfl rfl) (by ((repeat (first | exact blk_push_new _ _ | assumption | apply blk_push_old | apply blk_set_same | refine (blk_set_ne (by first | assumption | omega | (simp only [next_push, next_set, next_kill, ne_eq]; omega))).trans ?_ | refine (blk_kill_ne (by first | assumption | omega | (simp only [next_push, next_set, next_kill, ne_eq]; omega))).trans ?_)); (first | done | fail))) (by omega) (by omega) (by omega) hL hw (Sl.full said_len (by ((repeat (first | exact blk_push_new _ _ | assumption | apply blk_push_old | apply blk_set_same | refine (blk_set_ne (by first | assumption | omega | (simp only [next_push, next_set, next_kill, ne_eq]; omega))).trans ?_ | refine (blk_kill_ne (by first | assumption | omega | (simp only [next_push, next_set, next_kill, ne_eq]; omega))).trans ?_)); (first | done | fail))) rfl rfl rfl) (by omega) hv hr) Try.call57 rfl rfl) ?_
        refine al_opd rfl rfl rfl (ao_mv (v := .tuple _) rfl) ?_
        refine al_opd rfl rfl rfl (ao_extract (v := .int _ _) rfl rfl) ?_
        refine al_opd rfl rfl rfl (ao_extract (v := .int _ _) rfl rfl) ?_
        refine al_opd rfl rfl rfl (ao_as (v := .int _ _) rfl) ?_
        refine al_opd rfl rfl rfl (ao_as (v := .int _ _) rfl) ?_
        refine al_nilT ?_
        refine aw_seq ?_
        refine aw_region ?_
        refine al_opd rfl rfl rfl (ao_loada Try.isAgg34 Try.sizeOf34 rfl (by ((repeat (first | exact blk_push_new _ _ | assumption | apply blk_push_old | apply blk_set_same | refine (blk_set_ne (by first | assumption | omega | (simp only [next_push, next_set, next_kill, ne_eq]; omega))).trans ?_ | refine (blk_kill_ne (by first | assumption | omega | (simp only [next_push, next_set, next_kill, ne_eq]; omega))).trans ?_)); (first | done | fail))) (by rfl) (by first | rfl | (simp; (first | done | fail)))) ?_
        refine al_opd rfl rfl rfl (ao_calld (toRope_c (L := L) (v := v) (l := l) (ha.mono (by (repeat (first | exact Same.refl _ _ | assumption | refine Same.push ?_ (by (first | exact Nat.le_refl _ | omega | (simp only [next_push, next_set, next_kill]; omega))) _ | refine Same.set ?_ (by (first | exact Nat.le_refl _ | omega | (simp only [next_push, next_set, next_kill]; omega))) _ | refine Same.kill ?_ (by (first | exact Nat.le_refl _ | omega | (simp only [next_push, next_set, next_kill]; omega))))))) (by omega)) Try.call28 rfl rfl) ?_
        refine al_opd rfl rfl rfl (ao_alloca (zv37) (by rfl)) ?_
        first | refine al_opd rfl rfl rfl ((ao_storeL Try.sizeOf37 (by rfl) (by rfl) (by ((repeat (first | exact blk_push_new _ _ | assumption | apply blk_push_old | apply blk_set_same | refine (blk_set_ne (by first | assumption | omega | (simp only [next_push, next_set, next_kill, ne_eq]; omega))).trans ?_ | refine (blk_kill_ne (by first | assumption | omega | (simp only [next_push, next_set, next_kill, ne_eq]; omega))).trans ?_)); (first | done | fail))) (by first | rfl | (simp; (first | done | fail))) (by first | rfl | (simp; (first | done | fail))) (by first | rfl | (simp; (first | done | fail)))).to (SetR.eq (by (repeat (first | exact SetR.new | exact SetR.same | (apply SetR.old; · exact ⟨_, by ((repeat (first | exact blk_push_new _ _ | assumption | apply blk_push_old | apply blk_set_same | refine (blk_set_ne (by first | assumption | omega | (simp only [next_push, next_set, next_kill, ne_eq]; omega))).trans ?_ | refine (blk_kill_ne (by first | assumption | omega | (simp only [next_push, next_set, next_kill, ne_eq]; omega))).trans ?_)); (first | done | fail))⟩) | exact SetR.base))))) ?_ | refine al_opd rfl rfl rfl ((ao_storeP (ds := [.int _ _, .slice _ _ _]) Try.sizeOf37 (by rfl) (by rfl) (by ((repeat (first | exact blk_push_new _ _ | assumption | apply blk_push_old | apply blk_set_same | refine (blk_set_ne (by first | assumption | omega | (simp only [next_push, next_set, next_kill, ne_eq]; omega))).trans ?_ | refine (blk_kill_ne (by first | assumption | omega | (simp only [next_push, next_set, next_kill, ne_eq]; omega))).trans ?_)); (first | done | fail))) (by first | rfl | (simp; (first | done | fail))) (by first | rfl | (simp; (first | done | fail))) (by first | decide | (simp; (first | done | fail)) | (simp; omega))).to (SetR.eq (by (repeat (first | exact SetR.new | exact SetR.same | (apply SetR.old; · exact ⟨_, by ((repeat (first | exact blk_push_new _ _ | assumption | apply blk_push_old | apply blk_set_same | refine (blk_set_ne (by first | assumption | omega | (simp only [next_push, next_set, next_kill, ne_eq]; omega))).trans ?_ | refine (blk_kill_ne (by first | assumption | omega | (simp only [next_push, next_set, next_kill, ne_eq]; omega))).trans ?_)); (first | done | fail))⟩) | exact SetR.base))))) ?_
        refine al_nilT ?_
        refine aw_seq ?_
        refine aw_region ?_
        first | refine al_opd rfl rfl rfl (ao_mv (v := .slice _ _ _) rfl) ?_ | refine al_opd rfl rfl rfl (ao_mv (v := v) rfl) ?_ | refine al_opd rfl rfl rfl (ao_mv (v := u) rfl) ?_ | refine al_opd rfl rfl rfl (ao_mv (v := y) rfl) ?_
        refine al_opd rfl rfl rfl (ao_calld (toHoldS_c (v := u) (l := hs) (hh.mono (by (repeat (first | exact Same.refl _ _ | assumption | refine Same.push ?_ (by (first | exact Nat.le_refl _ | omega | (simp only [next_push, next_set, next_kill]; omega))) _ | refine Same.set ?_ (by (first | exact Nat.le_refl _ | omega | (simp only [next_push, next_set, next_kill]; omega))) _ | refine Same.kill ?_ (by (first | exact Nat.le_refl _ | omega | (simp only [next_push, next_set, next_kill]; omega))))))) (by omega)) Try.call23 rfl rfl) ?_
        first | refine al_opd rfl rfl rfl (ao_as (v := .slice _ _ _) rfl) ?_ | refine al_opd rfl rfl rfl (ao_as (v := v) rfl) ?_ | refine al_opd rfl rfl rfl (ao_as (v := u) rfl) ?_ | refine al_opd rfl rfl rfl (ao_as (v := y) rfl) ?_
        refine al_nilT ?_
        refine aw_seq ?_
        refine aw_region ?_
        first | refine al_opd rfl rfl rfl (ao_mv (v := .slice _ _ _) rfl) ?_ | refine al_opd rfl rfl rfl (ao_mv (v := v) rfl) ?_ | refine al_opd rfl rfl rfl (ao_mv (v := u) rfl) ?_ | refine al_opd rfl rfl rfl (ao_mv (v := y) rfl) ?_
        refine al_opd rfl rfl rfl (ao_calld (toSaidS_c (v := y) (l := sd) (hy.mono (by (repeat (first | exact Same.refl _ _ | assumption | refine Same.push ?_ (by (first | exact Nat.le_refl _ | omega | (simp only [next_push, next_set, next_kill]; omega))) _ | refine Same.set ?_ (by (first | exact Nat.le_refl _ | omega | (simp only [next_push, next_set, next_kill]; omega))) _ | refine Same.kill ?_ (by (first | exact Nat.le_refl _ | omega | (simp only [next_push, next_set, next_kill]; omega))))))) (by omega)) Try.call58 rfl rfl) ?_
        first | refine al_opd rfl rfl rfl (ao_as (v := .slice _ _ _) rfl) ?_ | refine al_opd rfl rfl rfl (ao_as (v := v) rfl) ?_ | refine al_opd rfl rfl rfl (ao_as (v := u) rfl) ?_ | refine al_opd rfl rfl rfl (ao_as (v := y) rfl) ?_
        refine al_nilT ?_
        refine aw_seq ?_
        refine aw_region ?_
        refine al_opd rfl rfl rfl (ao_loada Try.isAgg37 Try.sizeOf37 rfl (by ((repeat (first | exact blk_push_new _ _ | assumption | apply blk_push_old | apply blk_set_same | refine (blk_set_ne (by first | assumption | omega | (simp only [next_push, next_set, next_kill, ne_eq]; omega))).trans ?_ | refine (blk_kill_ne (by first | assumption | omega | (simp only [next_push, next_set, next_kill, ne_eq]; omega))).trans ?_)); (first | done | fail))) (by rfl) (by first | rfl | (simp; (first | done | fail)))) ?_
        first | refine al_opd rfl rfl rfl (ao_mv (v := .slice _ _ _) rfl) ?_ | refine al_opd rfl rfl rfl (ao_mv (v := v) rfl) ?_ | refine al_opd rfl rfl rfl (ao_mv (v := u) rfl) ?_ | refine al_opd rfl rfl rfl (ao_mv (v := y) rfl) ?_
        first | refine al_opd rfl rfl rfl (ao_mv (v := .slice _ _ _) rfl) ?_ | refine al_opd rfl rfl rfl (ao_mv (v := v) rfl) ?_ | refine al_opd rfl rfl rfl (ao_mv (v := u) rfl) ?_ | refine al_opd rfl rfl rfl (ao_mv (v := y) rfl) ?_
        refine al_opd rfl rfl rfl (ao_calld (implFault1_c (L := L) (ks := l) (hs := hs) (sd := sd) (Sl.full i16_len (by ((repeat (first | exact blk_push_new _ _ | assumption | apply blk_push_old | apply blk_set_same | refine (blk_set_ne (by first | assumption | omega | (simp only [next_push, next_set, next_kill, ne_eq]; omega))).trans ?_ | refine (blk_kill_ne (by first | assumption | omega | (simp only [next_push, next_set, next_kill, ne_eq]; omega))).trans ?_)); (first | done | fail))) rfl rfl rfl) (by ((repeat (first | exact blk_push_new _ _ | assumption | apply blk_push_old | apply blk_set_same | refine (blk_set_ne (by first | assumption | omega | (simp only [next_push, next_set, next_kill, ne_eq]; omega))).trans ?_ | refine (blk_kill_ne (by first | assumption | omega | (simp only [next_push, next_set, next_kill, ne_eq]; omega))).trans ?_)); (first | done | fail))) (by omega) (by omega) (by omega) hL hw (Sl.full said_len (by ((repeat (first | exact blk_push_new _ _ | assumption | apply blk_push_old | apply blk_set_same | refine (blk_set_ne (by first | assumption | omega | (simp only [next_push, next_set, next_kill, ne_eq]; omega))).trans ?_ | refine (blk_kill_ne (by first | assumption | omega | (simp only [next_push, next_set, next_kill, ne_eq]; omega))).trans ?_)); (first | done | fail))) rfl rfl rfl) (by omega) hv hr) Try.call59 rfl rfl) ?_
        refine al_opd rfl rfl rfl (ao_mv (v := .tuple _) rfl) ?_
        refine al_opd rfl rfl rfl (ao_extract (v := .int _ _) rfl rfl) ?_
        refine al_opd rfl rfl rfl (ao_extract (v := .int _ _) rfl rfl) ?_
        refine al_opd rfl rfl rfl (ao_as (v := .int _ _) rfl) ?_
        refine al_opd rfl rfl rfl (ao_as (v := .int _ _) rfl) ?_
        refine al_nilT ?_
        refine aw_seq ?_
        refine aw_seq ?_
        refine aw_region ?_
        refine al_opd rfl rfl rfl (ao_mv (v := .int _ _) rfl) ?_
        refine al_opd rfl rfl rfl (ao_mv (v := .int _ _) rfl) ?_
        refine al_opd rfl rfl rfl (ao_neq rfl rfl) ?_
        refine al_opd rfl rfl rfl (ao_mv (v := .bool _) rfl) ?_
        refine al_cases (d := 56) rfl (fun h4_ => ?_) (fun h4_ => ?_)
        · try simp only [decide_eq_true_eq, decide_eq_false_iff_not, Bool.not_eq_true', Bool.not_eq_false', Bool.and_eq_true, Bool.or_eq_true, Bool.and_eq_false_iff, Bool.or_eq_false_iff, beq_iff_eq, bne_iff_ne, beq_eq_false_iff_ne, bne_eq_false_iff_eq, ne_eq, Decidable.not_not, Bool.decide_eq_true] at h4_
          first | done | omega | (exfalso; revert h4_; simp; (first | done | omega))
        · try simp only [decide_eq_true_eq, decide_eq_false_iff_not, Bool.not_eq_true', Bool.not_eq_false', Bool.and_eq_true, Bool.or_eq_true, Bool.and_eq_false_iff, Bool.or_eq_false_iff, beq_iff_eq, bne_iff_ne, beq_eq_false_iff_ne, bne_eq_false_iff_eq, ne_eq, Decidable.not_not, Bool.decide_eq_true] at h4_
          refine al_gyes rfl rfl rfl rfl rfl (ao_mv (v := .int _ _) rfl) ?_
          refine al_gyes rfl rfl rfl rfl rfl (ao_mv (v := .int _ _) rfl) ?_
          refine al_gyes rfl rfl rfl rfl rfl (ao_neq rfl rfl) ?_
          refine al_opd rfl rfl rfl (ao_pickF rfl (v := .bool _) rfl) ?_
          refine al_nilT ?_
          refine aw_cond rfl (fun h5_ => ?_) (fun h5_ => ?_)
          · try simp only [decide_eq_true_eq, decide_eq_false_iff_not, Bool.not_eq_true', Bool.not_eq_false', Bool.and_eq_true, Bool.or_eq_true, Bool.and_eq_false_iff, Bool.or_eq_false_iff, beq_iff_eq, bne_iff_ne, beq_eq_false_iff_ne, bne_eq_false_iff_eq, ne_eq, Decidable.not_not, Bool.decide_eq_true] at h5_
            first | done | omega | (exfalso; revert h5_; simp; (first | done | omega))
          · try simp only [decide_eq_true_eq, decide_eq_false_iff_not, Bool.not_eq_true', Bool.not_eq_false', Bool.and_eq_true, Bool.or_eq_true, Bool.and_eq_false_iff, Bool.or_eq_false_iff, beq_iff_eq, bne_iff_ne, beq_eq_false_iff_ne, bne_eq_false_iff_eq, ne_eq, Decidable.not_not, Bool.decide_eq_true] at h5_
            refine aw_skipT ?_
            refine aw_seq ?_
            refine aw_seq ?_
            refine aw_draw (m := 5) mo (by kernel_rfl) rfl ?_
            refine dw_opd rfl rfl rfl (ao_loada Try.isAgg37 Try.sizeOf37 rfl (by ((repeat (first | exact blk_push_new _ _ | assumption | apply blk_push_old | apply blk_set_same | refine (blk_set_ne (by first | assumption | omega | (simp only [next_push, next_set, next_kill, ne_eq]; omega))).trans ?_ | refine (blk_kill_ne (by first | assumption | omega | (simp only [next_push, next_set, next_kill, ne_eq]; omega))).trans ?_)); (first | done | fail))) (by rfl) (by first | rfl | (simp; (first | done | fail)))) ?_
            refine dw_opd rfl rfl rfl (ao_loada Try.isAgg34 Try.sizeOf34 rfl (by ((repeat (first | exact blk_push_new _ _ | assumption | apply blk_push_old | apply blk_set_same | refine (blk_set_ne (by first | assumption | omega | (simp only [next_push, next_set, next_kill, ne_eq]; omega))).trans ?_ | refine (blk_kill_ne (by first | assumption | omega | (simp only [next_push, next_set, next_kill, ne_eq]; omega))).trans ?_)); (first | done | fail))) (by rfl) (by first | rfl | (simp; (first | done | fail)))) ?_
            refine dw_opn rfl rfl rfl (ao_calld (toRope_c (L := L) (v := v) (l := l) (ha.mono (by (repeat (first | exact Same.refl _ _ | assumption | refine Same.push ?_ (by (first | exact Nat.le_refl _ | omega | (simp only [next_push, next_set, next_kill]; omega))) _ | refine Same.set ?_ (by (first | exact Nat.le_refl _ | omega | (simp only [next_push, next_set, next_kill]; omega))) _ | refine Same.kill ?_ (by (first | exact Nat.le_refl _ | omega | (simp only [next_push, next_set, next_kill]; omega))))))) (by omega)) Try.call28 rfl rfl) ?_
            refine dw_opd rfl rfl rfl (ao_calld (eqRope_c (L := L) (M := L) (l := l) (m := l) (Sl.full i16_len (by ((repeat (first | exact blk_push_new _ _ | assumption | apply blk_push_old | apply blk_set_same | refine (blk_set_ne (by first | assumption | omega | (simp only [next_push, next_set, next_kill, ne_eq]; omega))).trans ?_ | refine (blk_kill_ne (by first | assumption | omega | (simp only [next_push, next_set, next_kill, ne_eq]; omega))).trans ?_)); (first | done | fail))) rfl rfl rfl) (Sl.full i16_len (by ((repeat (first | exact blk_push_new _ _ | assumption | apply blk_push_old | apply blk_set_same | refine (blk_set_ne (by first | assumption | omega | (simp only [next_push, next_set, next_kill, ne_eq]; omega))).trans ?_ | refine (blk_kill_ne (by first | assumption | omega | (simp only [next_push, next_set, next_kill, ne_eq]; omega))).trans ?_)); (first | done | fail))) rfl rfl rfl) (by omega)) Try.call30 rfl rfl) ?_
            refine dw_opd rfl rfl rfl (ao_not rfl) ?_
            refine dw_end ?_
            refine al_nilT ?_
            refine aw_cond rfl (fun h6_ => ?_) (fun h6_ => ?_)
            · try simp only [decide_eq_true_eq, decide_eq_false_iff_not, Bool.not_eq_true', Bool.not_eq_false', Bool.and_eq_true, Bool.or_eq_true, Bool.and_eq_false_iff, Bool.or_eq_false_iff, beq_iff_eq, bne_iff_ne, beq_eq_false_iff_ne, bne_eq_false_iff_eq, ne_eq, Decidable.not_not, Bool.decide_eq_true] at h6_
              first | done | omega | (exfalso; revert h6_; simp; (first | done | omega))
            · try simp only [decide_eq_true_eq, decide_eq_false_iff_not, Bool.not_eq_true', Bool.not_eq_false', Bool.and_eq_true, Bool.or_eq_true, Bool.and_eq_false_iff, Bool.or_eq_false_iff, beq_iff_eq, bne_iff_ne, beq_eq_false_iff_ne, bne_eq_false_iff_eq, ne_eq, Decidable.not_not, Bool.decide_eq_true] at h6_
              refine aw_skipT ?_
              refine aw_seq ?_
              refine aw_seq ?_
              refine aw_region ?_
              first | refine al_opd rfl rfl rfl (ao_mv (v := .slice _ _ _) rfl) ?_ | refine al_opd rfl rfl rfl (ao_mv (v := v) rfl) ?_ | refine al_opd rfl rfl rfl (ao_mv (v := u) rfl) ?_ | refine al_opd rfl rfl rfl (ao_mv (v := y) rfl) ?_
              first | refine al_opd rfl rfl rfl (ao_mv (v := .slice _ _ _) rfl) ?_ | refine al_opd rfl rfl rfl (ao_mv (v := v) rfl) ?_ | refine al_opd rfl rfl rfl (ao_mv (v := u) rfl) ?_ | refine al_opd rfl rfl rfl (ao_mv (v := y) rfl) ?_
              refine al_opd rfl rfl rfl (ao_calld (toHoldS_c (v := u) (l := hs) (hh.mono (by (repeat (first | exact Same.refl _ _ | assumption | refine Same.push ?_ (by (first | exact Nat.le_refl _ | omega | (simp only [next_push, next_set, next_kill]; omega))) _ | refine Same.set ?_ (by (first | exact Nat.le_refl _ | omega | (simp only [next_push, next_set, next_kill]; omega))) _ | refine Same.kill ?_ (by (first | exact Nat.le_refl _ | omega | (simp only [next_push, next_set, next_kill]; omega))))))) (by omega)) Try.call23 rfl rfl) ?_
              refine al_opd rfl rfl rfl (ao_calld (eqHoldS_c (l := hs) (m := hs) (Sl.full hold_len (by ((repeat (first | exact blk_push_new _ _ | assumption | apply blk_push_old | apply blk_set_same | refine (blk_set_ne (by first | assumption | omega | (simp only [next_push, next_set, next_kill, ne_eq]; omega))).trans ?_ | refine (blk_kill_ne (by first | assumption | omega | (simp only [next_push, next_set, next_kill, ne_eq]; omega))).trans ?_)); (first | done | fail))) rfl rfl rfl) (Sl.full hold_len (by ((repeat (first | exact blk_push_new _ _ | assumption | apply blk_push_old | apply blk_set_same | refine (blk_set_ne (by first | assumption | omega | (simp only [next_push, next_set, next_kill, ne_eq]; omega))).trans ?_ | refine (blk_kill_ne (by first | assumption | omega | (simp only [next_push, next_set, next_kill, ne_eq]; omega))).trans ?_)); (first | done | fail))) rfl rfl rfl) (by omega)) Try.call25 rfl rfl) ?_
              refine al_opd rfl rfl rfl (ao_not rfl) ?_
              refine al_nilT ?_
              refine aw_cond rfl (fun h7_ => ?_) (fun h7_ => ?_)
              · try simp only [decide_eq_true_eq, decide_eq_false_iff_not, Bool.not_eq_true', Bool.not_eq_false', Bool.and_eq_true, Bool.or_eq_true, Bool.and_eq_false_iff, Bool.or_eq_false_iff, beq_iff_eq, bne_iff_ne, beq_eq_false_iff_ne, bne_eq_false_iff_eq, ne_eq, Decidable.not_not, Bool.decide_eq_true] at h7_
                first | done | omega | (exfalso; revert h7_; simp; (first | done | omega))
              · try simp only [decide_eq_true_eq, decide_eq_false_iff_not, Bool.not_eq_true', Bool.not_eq_false', Bool.and_eq_true, Bool.or_eq_true, Bool.and_eq_false_iff, Bool.or_eq_false_iff, beq_iff_eq, bne_iff_ne, beq_eq_false_iff_ne, bne_eq_false_iff_eq, ne_eq, Decidable.not_not, Bool.decide_eq_true] at h7_
                refine aw_skipT ?_
                refine aw_seq ?_
                refine aw_seq ?_
                refine aw_region ?_
                first | refine al_opd rfl rfl rfl (ao_mv (v := .slice _ _ _) rfl) ?_ | refine al_opd rfl rfl rfl (ao_mv (v := v) rfl) ?_ | refine al_opd rfl rfl rfl (ao_mv (v := u) rfl) ?_ | refine al_opd rfl rfl rfl (ao_mv (v := y) rfl) ?_
                first | refine al_opd rfl rfl rfl (ao_mv (v := .slice _ _ _) rfl) ?_ | refine al_opd rfl rfl rfl (ao_mv (v := v) rfl) ?_ | refine al_opd rfl rfl rfl (ao_mv (v := u) rfl) ?_ | refine al_opd rfl rfl rfl (ao_mv (v := y) rfl) ?_
                refine al_opd rfl rfl rfl (ao_calld (toSaidS_c (v := y) (l := sd) (hy.mono (by (repeat (first | exact Same.refl _ _ | assumption | refine Same.push ?_ (by (first | exact Nat.le_refl _ | omega | (simp only [next_push, next_set, next_kill]; omega))) _ | refine Same.set ?_ (by (first | exact Nat.le_refl _ | omega | (simp only [next_push, next_set, next_kill]; omega))) _ | refine Same.kill ?_ (by (first | exact Nat.le_refl _ | omega | (simp only [next_push, next_set, next_kill]; omega))))))) (by omega)) Try.call58 rfl rfl) ?_
                refine al_opd rfl rfl rfl (ao_calld (eqSaidS_c (l := sd) (m := sd) (Sl.full said_len (by ((repeat (first | exact blk_push_new _ _ | assumption | apply blk_push_old | apply blk_set_same | refine (blk_set_ne (by first | assumption | omega | (simp only [next_push, next_set, next_kill, ne_eq]; omega))).trans ?_ | refine (blk_kill_ne (by first | assumption | omega | (simp only [next_push, next_set, next_kill, ne_eq]; omega))).trans ?_)); (first | done | fail))) rfl rfl rfl) (Sl.full said_len (by ((repeat (first | exact blk_push_new _ _ | assumption | apply blk_push_old | apply blk_set_same | refine (blk_set_ne (by first | assumption | omega | (simp only [next_push, next_set, next_kill, ne_eq]; omega))).trans ?_ | refine (blk_kill_ne (by first | assumption | omega | (simp only [next_push, next_set, next_kill, ne_eq]; omega))).trans ?_)); (first | done | fail))) rfl rfl rfl) (by omega)) Try.call60 rfl rfl) ?_
                refine al_opd rfl rfl rfl (ao_not rfl) ?_
                refine al_nilT ?_
                refine aw_cond rfl (fun h8_ => ?_) (fun h8_ => ?_)
                · try simp only [decide_eq_true_eq, decide_eq_false_iff_not, Bool.not_eq_true', Bool.not_eq_false', Bool.and_eq_true, Bool.or_eq_true, Bool.and_eq_false_iff, Bool.or_eq_false_iff, beq_iff_eq, bne_iff_ne, beq_eq_false_iff_ne, bne_eq_false_iff_eq, ne_eq, Decidable.not_not, Bool.decide_eq_true] at h8_
                  first | done | omega | (exfalso; revert h8_; simp; (first | done | omega))
                · try simp only [decide_eq_true_eq, decide_eq_false_iff_not, Bool.not_eq_true', Bool.not_eq_false', Bool.and_eq_true, Bool.or_eq_true, Bool.and_eq_false_iff, Bool.or_eq_false_iff, beq_iff_eq, bne_iff_ne, beq_eq_false_iff_ne, bne_eq_false_iff_eq, ne_eq, Decidable.not_not, Bool.decide_eq_true] at h8_
                  refine aw_skipT ?_
                  refine aw_seq ?_
                  refine aw_region ?_
                  refine al_opd rfl rfl rfl (ao_as (v := .bool _) rfl) ?_
                  refine al_nilT ?_
                  refine aw_ret ?_
                  refine ends1 rfl (rv_tmp (v := .bool _) rfl) ?_
                  exact ⟨by first | rfl | (simp [*]; (first | done | fail)), by (repeat (first | exact Same.refl _ _ | assumption | refine Same.push ?_ (by (first | exact Nat.le_refl _ | omega | (simp only [next_push, next_set, next_kill]; omega))) _ | refine Same.set ?_ (by (first | exact Nat.le_refl _ | omega | (simp only [next_push, next_set, next_kill]; omega))) _ | refine Same.kill ?_ (by (first | exact Nat.le_refl _ | omega | (simp only [next_push, next_set, next_kill]; omega)))))⟩

-- laws.FnExactFirstFault
theorem lawFault0_c {L : Int} {v u : Value} {l : List Int} {hs : List Hold} {y : Value} {sd : List Said} {H : AHeap} (ha : Sl H i16 1 v l) (hh : Sl H hold 2 u hs) (hl : l.length ≤ 9223372036854775807) (hm : hs.length ≤ 9223372036854775807) (hL : -32768 ≤ L ∧ L ≤ 32767) (hw : holdOk hs) (hy : Sl H said 2 y sd) (hd : sd.length ≤ 9223372036854775807) (hv : ¬ (okRope L l ∧ okHolds l.length hs)) : ACd Try.prog 16 [.agg #[.int .i16 L, v], u, y] H (.bool true) (H) := by
  refine ac_gc0 (fun β => VR.plainT β (by first | rfl | simp [plainT, plainV, plain1])) (ac_body Try.func16 rfl Try.ntmps16 rfl ?_)
  refine aw_seq ?_
  refine aw_region ?_
  refine al_opd rfl rfl rfl (ao_boxa (by rfl)) ?_
  refine al_opd rfl rfl rfl (ao_as (v := .bool _) rfl) ?_
  refine al_nilT ?_
  refine aw_seq ?_
  refine aw_region ?_
  refine al_opd rfl rfl rfl (ao_as (v := .int _ _) rfl) ?_
  refine al_nilT ?_
  refine aw_seq ?_
  refine aw_region ?_
  refine al_opd rfl rfl rfl (ao_loada Try.isAgg34 Try.sizeOf34 rfl (by ((repeat (first | exact blk_push_new _ _ | assumption | apply blk_push_old | apply blk_set_same | refine (blk_set_ne (by first | assumption | omega | (simp only [next_push, next_set, next_kill, ne_eq]; omega))).trans ?_ | refine (blk_kill_ne (by first | assumption | omega | (simp only [next_push, next_set, next_kill, ne_eq]; omega))).trans ?_)); (first | done | fail))) (by rfl) (by first | rfl | (simp; (first | done | fail)))) ?_
  refine al_opd rfl rfl rfl (ao_mv (v := .int _ _) rfl) ?_
  refine al_opd rfl rfl rfl (ao_calld (szRope_c (L := L) (v := v) (l := l) (k := 1048576) (ha.mono (by (repeat (first | exact Same.refl _ _ | assumption | refine Same.push ?_ (by (first | exact Nat.le_refl _ | omega | (simp only [next_push, next_set, next_kill]; omega))) _ | refine Same.set ?_ (by (first | exact Nat.le_refl _ | omega | (simp only [next_push, next_set, next_kill]; omega))) _ | refine Same.kill ?_ (by (first | exact Nat.le_refl _ | omega | (simp only [next_push, next_set, next_kill]; omega))))))) hl (by omega)) Try.call26 rfl rfl) ?_
  refine al_opd rfl rfl rfl (ao_as (v := .int _ _) rfl) ?_
  refine al_nilT ?_
  refine aw_seq ?_
  refine aw_seq ?_
  refine aw_region ?_
  refine al_opd rfl rfl rfl (ao_mv (v := .int _ _) rfl) ?_
  refine al_opd rfl rfl rfl (ao_lss rfl rfl) ?_
  refine al_nilT ?_
  refine aw_cond rfl (fun h1_ => ?_) (fun h1_ => ?_)
  · try simp only [decide_eq_true_eq, decide_eq_false_iff_not, Bool.not_eq_true', Bool.not_eq_false', Bool.and_eq_true, Bool.or_eq_true, Bool.and_eq_false_iff, Bool.or_eq_false_iff, beq_iff_eq, bne_iff_ne, beq_eq_false_iff_ne, bne_eq_false_iff_eq, ne_eq, Decidable.not_not, Bool.decide_eq_true] at h1_
    refine aw_seq ?_
    refine aw_region ?_
    refine al_opd rfl rfl rfl (ao_as (v := .bool _) rfl) ?_
    refine al_nilT ?_
    refine aw_ret ?_
    refine thenA_r ?_
    refine ends1 rfl (rv_tmp (v := .bool _) rfl) ?_
    exact ⟨by first | rfl | (simp [*]; (first | done | fail)), by (repeat (first | exact Same.refl _ _ | assumption | refine Same.push ?_ (by (first | exact Nat.le_refl _ | omega | (simp only [next_push, next_set, next_kill]; omega))) _ | refine Same.set ?_ (by (first | exact Nat.le_refl _ | omega | (simp only [next_push, next_set, next_kill]; omega))) _ | refine Same.kill ?_ (by (first | exact Nat.le_refl _ | omega | (simp only [next_push, next_set, next_kill]; omega)))))⟩
  · try simp only [decide_eq_true_eq, decide_eq_false_iff_not, Bool.not_eq_true', Bool.not_eq_false', Bool.and_eq_true, Bool.or_eq_true, Bool.and_eq_false_iff, Bool.or_eq_false_iff, beq_iff_eq, bne_iff_ne, beq_eq_false_iff_ne, bne_eq_false_iff_eq, ne_eq, Decidable.not_not, Bool.decide_eq_true] at h1_
    have hl1 : l.length ≤ 1048576 := by omega
    refine aw_skipT ?_
    refine aw_seq ?_
    refine aw_region ?_
    first | refine al_opd rfl rfl rfl (ao_mv (v := .slice _ _ _) rfl) ?_ | refine al_opd rfl rfl rfl (ao_mv (v := v) rfl) ?_ | refine al_opd rfl rfl rfl (ao_mv (v := u) rfl) ?_ | refine al_opd rfl rfl rfl (ao_mv (v := y) rfl) ?_
    refine al_opd rfl rfl rfl (ao_mv (v := .int _ _) rfl) ?_
    refine al_opd rfl rfl rfl (ao_calld (szHoldS_c (v := u) (l := hs) (k := if 1048576 - (l.length : Int) < 0 then -1 else 1048576 - l.length) (hh.mono (by (repeat (first | exact Same.refl _ _ | assumption | refine Same.push ?_ (by (first | exact Nat.le_refl _ | omega | (simp only [next_push, next_set, next_kill]; omega))) _ | refine Same.set ?_ (by (first | exact Nat.le_refl _ | omega | (simp only [next_push, next_set, next_kill]; omega))) _ | refine Same.kill ?_ (by (first | exact Nat.le_refl _ | omega | (simp only [next_push, next_set, next_kill]; omega))))))) hm (by omega)) Try.call21 rfl rfl) ?_
    refine al_opd rfl rfl rfl (ao_as (v := .int _ _) rfl) ?_
    refine al_nilT ?_
    refine aw_seq ?_
    refine aw_seq ?_
    refine aw_region ?_
    refine al_opd rfl rfl rfl (ao_mv (v := .int _ _) rfl) ?_
    refine al_opd rfl rfl rfl (ao_lss rfl rfl) ?_
    refine al_nilT ?_
    refine aw_cond rfl (fun h2_ => ?_) (fun h2_ => ?_)
    · try simp only [decide_eq_true_eq, decide_eq_false_iff_not, Bool.not_eq_true', Bool.not_eq_false', Bool.and_eq_true, Bool.or_eq_true, Bool.and_eq_false_iff, Bool.or_eq_false_iff, beq_iff_eq, bne_iff_ne, beq_eq_false_iff_ne, bne_eq_false_iff_eq, ne_eq, Decidable.not_not, Bool.decide_eq_true] at h2_
      refine aw_seq ?_
      refine aw_region ?_
      refine al_opd rfl rfl rfl (ao_as (v := .bool _) rfl) ?_
      refine al_nilT ?_
      refine aw_ret ?_
      refine thenA_r ?_
      refine ends1 rfl (rv_tmp (v := .bool _) rfl) ?_
      exact ⟨by first | rfl | (simp [*]; (first | done | fail)), by (repeat (first | exact Same.refl _ _ | assumption | refine Same.push ?_ (by (first | exact Nat.le_refl _ | omega | (simp only [next_push, next_set, next_kill]; omega))) _ | refine Same.set ?_ (by (first | exact Nat.le_refl _ | omega | (simp only [next_push, next_set, next_kill]; omega))) _ | refine Same.kill ?_ (by (first | exact Nat.le_refl _ | omega | (simp only [next_push, next_set, next_kill]; omega)))))⟩
    · try simp only [decide_eq_true_eq, decide_eq_false_iff_not, Bool.not_eq_true', Bool.not_eq_false', Bool.and_eq_true, Bool.or_eq_true, Bool.and_eq_false_iff, Bool.or_eq_false_iff, beq_iff_eq, bne_iff_ne, beq_eq_false_iff_ne, bne_eq_false_iff_eq, ne_eq, Decidable.not_not, Bool.decide_eq_true] at h2_
      have hm1 : hs.length ≤ 1048576 := by omega
      refine aw_skipT ?_
      refine aw_seq ?_
      refine aw_region ?_
      first | refine al_opd rfl rfl rfl (ao_mv (v := .slice _ _ _) rfl) ?_ | refine al_opd rfl rfl rfl (ao_mv (v := v) rfl) ?_ | refine al_opd rfl rfl rfl (ao_mv (v := u) rfl) ?_ | refine al_opd rfl rfl rfl (ao_mv (v := y) rfl) ?_
      refine al_opd rfl rfl rfl (ao_mv (v := .int _ _) rfl) ?_
      refine al_opd rfl rfl rfl (ao_calld (szSaidS_c (v := y) (l := sd) (k := (if (if (1048576 : Int) - (l.length : Int) < 0 then (-1 : Int) else (1048576 : Int) - (l.length : Int)) - (hs.length : Int) < 0 then (-1 : Int) else (if (1048576 : Int) - (l.length : Int) < 0 then (-1 : Int) else (1048576 : Int) - (l.length : Int)) - (hs.length : Int))) (hy.mono (by (repeat (first | exact Same.refl _ _ | assumption | refine Same.push ?_ (by (first | exact Nat.le_refl _ | omega | (simp only [next_push, next_set, next_kill]; omega))) _ | refine Same.set ?_ (by (first | exact Nat.le_refl _ | omega | (simp only [next_push, next_set, next_kill]; omega))) _ | refine Same.kill ?_ (by (first | exact Nat.le_refl _ | omega | (simp only [next_push, next_set, next_kill]; omega))))))) hd (by omega)) Try.call56 rfl rfl) ?_
      refine al_opd rfl rfl rfl (ao_as (v := .int _ _) rfl) ?_
      refine al_nilT ?_
      refine aw_seq ?_
      refine aw_seq ?_
      refine aw_region ?_
      refine al_opd rfl rfl rfl (ao_mv (v := .int _ _) rfl) ?_
      refine al_opd rfl rfl rfl (ao_lss rfl rfl) ?_
      refine al_nilT ?_
      refine aw_cond rfl (fun h3_ => ?_) (fun h3_ => ?_)
      · try simp only [decide_eq_true_eq, decide_eq_false_iff_not, Bool.not_eq_true', Bool.not_eq_false', Bool.and_eq_true, Bool.or_eq_true, Bool.and_eq_false_iff, Bool.or_eq_false_iff, beq_iff_eq, bne_iff_ne, beq_eq_false_iff_ne, bne_eq_false_iff_eq, ne_eq, Decidable.not_not, Bool.decide_eq_true] at h3_
        refine aw_seq ?_
        refine aw_region ?_
        refine al_opd rfl rfl rfl (ao_as (v := .bool _) rfl) ?_
        refine al_nilT ?_
        refine aw_ret ?_
        refine thenA_r ?_
        refine ends1 rfl (rv_tmp (v := .bool _) rfl) ?_
        exact ⟨by first | rfl | (simp [*]; (first | done | fail)), by (repeat (first | exact Same.refl _ _ | assumption | refine Same.push ?_ (by (first | exact Nat.le_refl _ | omega | (simp only [next_push, next_set, next_kill]; omega))) _ | refine Same.set ?_ (by (first | exact Nat.le_refl _ | omega | (simp only [next_push, next_set, next_kill]; omega))) _ | refine Same.kill ?_ (by (first | exact Nat.le_refl _ | omega | (simp only [next_push, next_set, next_kill]; omega)))))⟩
      · try simp only [decide_eq_true_eq, decide_eq_false_iff_not, Bool.not_eq_true', Bool.not_eq_false', Bool.and_eq_true, Bool.or_eq_true, Bool.and_eq_false_iff, Bool.or_eq_false_iff, beq_iff_eq, bne_iff_ne, beq_eq_false_iff_ne, bne_eq_false_iff_eq, ne_eq, Decidable.not_not, Bool.decide_eq_true] at h3_
        have hd1 : sd.length ≤ 1048576 := by omega
        refine aw_skipT ?_
        refine aw_seq ?_
        refine aw_region ?_
        refine al_opd rfl rfl rfl (ao_loada Try.isAgg34 Try.sizeOf34 rfl (by ((repeat (first | exact blk_push_new _ _ | assumption | apply blk_push_old | apply blk_set_same | refine (blk_set_ne (by first | assumption | omega | (simp only [next_push, next_set, next_kill, ne_eq]; omega))).trans ?_ | refine (blk_kill_ne (by first | assumption | omega | (simp only [next_push, next_set, next_kill, ne_eq]; omega))).trans ?_)); (first | done | fail))) (by rfl) (by first | rfl | (simp; (first | done | fail)))) ?_
        refine al_opd rfl rfl rfl (ao_calld (toRope_c (L := L) (v := v) (l := l) (ha.mono (by (repeat (first | exact Same.refl _ _ | assumption | refine Same.push ?_ (by (first | exact Nat.le_refl _ | omega | (simp only [next_push, next_set, next_kill]; omega))) _ | refine Same.set ?_ (by (first | exact Nat.le_refl _ | omega | (simp only [next_push, next_set, next_kill]; omega))) _ | refine Same.kill ?_ (by (first | exact Nat.le_refl _ | omega | (simp only [next_push, next_set, next_kill]; omega))))))) (by omega)) Try.call28 rfl rfl) ?_
        first | refine al_opd rfl rfl rfl (ao_mv (v := .slice _ _ _) rfl) ?_ | refine al_opd rfl rfl rfl (ao_mv (v := v) rfl) ?_ | refine al_opd rfl rfl rfl (ao_mv (v := u) rfl) ?_ | refine al_opd rfl rfl rfl (ao_mv (v := y) rfl) ?_
        refine al_opd rfl rfl rfl (ao_calld (toHoldS_c (v := u) (l := hs) (hh.mono (by (repeat (first | exact Same.refl _ _ | assumption | refine Same.push ?_ (by (first | exact Nat.le_refl _ | omega | (simp only [next_push, next_set, next_kill]; omega))) _ | refine Same.set ?_ (by (first | exact Nat.le_refl _ | omega | (simp only [next_push, next_set, next_kill]; omega))) _ | refine Same.kill ?_ (by (first | exact Nat.le_refl _ | omega | (simp only [next_push, next_set, next_kill]; omega))))))) (by omega)) Try.call23 rfl rfl) ?_
        first | refine al_opd rfl rfl rfl (ao_mv (v := .slice _ _ _) rfl) ?_ | refine al_opd rfl rfl rfl (ao_mv (v := v) rfl) ?_ | refine al_opd rfl rfl rfl (ao_mv (v := u) rfl) ?_ | refine al_opd rfl rfl rfl (ao_mv (v := y) rfl) ?_
        refine al_opd rfl rfl rfl (ao_calld (toSaidS_c (v := y) (l := sd) (hy.mono (by (repeat (first | exact Same.refl _ _ | assumption | refine Same.push ?_ (by (first | exact Nat.le_refl _ | omega | (simp only [next_push, next_set, next_kill]; omega))) _ | refine Same.set ?_ (by (first | exact Nat.le_refl _ | omega | (simp only [next_push, next_set, next_kill]; omega))) _ | refine Same.kill ?_ (by (first | exact Nat.le_refl _ | omega | (simp only [next_push, next_set, next_kill]; omega))))))) (by omega)) Try.call58 rfl rfl) ?_
        refine al_opd rfl rfl rfl (ao_calld (specFault0_c (L := L) (ks := l) (hs := hs) (sd := sd) (Sl.full i16_len (by ((repeat (first | exact blk_push_new _ _ | assumption | apply blk_push_old | apply blk_set_same | refine (blk_set_ne (by first | assumption | omega | (simp only [next_push, next_set, next_kill, ne_eq]; omega))).trans ?_ | refine (blk_kill_ne (by first | assumption | omega | (simp only [next_push, next_set, next_kill, ne_eq]; omega))).trans ?_)); (first | done | fail))) rfl rfl rfl) (by ((repeat (first | exact blk_push_new _ _ | assumption | apply blk_push_old | apply blk_set_same | refine (blk_set_ne (by first | assumption | omega | (simp only [next_push, next_set, next_kill, ne_eq]; omega))).trans ?_ | refine (blk_kill_ne (by first | assumption | omega | (simp only [next_push, next_set, next_kill, ne_eq]; omega))).trans ?_)); (first | done | fail))) (by omega) (by omega) (by omega) hL hw (Sl.full said_len (by ((repeat (first | exact blk_push_new _ _ | assumption | apply blk_push_old | apply blk_set_same | refine (blk_set_ne (by first | assumption | omega | (simp only [next_push, next_set, next_kill, ne_eq]; omega))).trans ?_ | refine (blk_kill_ne (by first | assumption | omega | (simp only [next_push, next_set, next_kill, ne_eq]; omega))).trans ?_)); (first | done | fail))) rfl rfl rfl) (by omega) hv) Try.call57 rfl rfl) ?_
        refine al_opd rfl rfl rfl (ao_mv (v := .tuple _) rfl) ?_
        refine al_opd rfl rfl rfl (ao_extract (v := .int _ _) rfl rfl) ?_
        refine al_opd rfl rfl rfl (ao_extract (v := .int _ _) rfl rfl) ?_
        refine al_opd rfl rfl rfl (ao_as (v := .int _ _) rfl) ?_
        refine al_opd rfl rfl rfl (ao_as (v := .int _ _) rfl) ?_
        refine al_nilT ?_
        refine aw_seq ?_
        refine aw_region ?_
        refine al_opd rfl rfl rfl (ao_loada Try.isAgg34 Try.sizeOf34 rfl (by ((repeat (first | exact blk_push_new _ _ | assumption | apply blk_push_old | apply blk_set_same | refine (blk_set_ne (by first | assumption | omega | (simp only [next_push, next_set, next_kill, ne_eq]; omega))).trans ?_ | refine (blk_kill_ne (by first | assumption | omega | (simp only [next_push, next_set, next_kill, ne_eq]; omega))).trans ?_)); (first | done | fail))) (by rfl) (by first | rfl | (simp; (first | done | fail)))) ?_
        refine al_opd rfl rfl rfl (ao_calld (toRope_c (L := L) (v := v) (l := l) (ha.mono (by (repeat (first | exact Same.refl _ _ | assumption | refine Same.push ?_ (by (first | exact Nat.le_refl _ | omega | (simp only [next_push, next_set, next_kill]; omega))) _ | refine Same.set ?_ (by (first | exact Nat.le_refl _ | omega | (simp only [next_push, next_set, next_kill]; omega))) _ | refine Same.kill ?_ (by (first | exact Nat.le_refl _ | omega | (simp only [next_push, next_set, next_kill]; omega))))))) (by omega)) Try.call28 rfl rfl) ?_
        refine al_opd rfl rfl rfl (ao_alloca (zv37) (by rfl)) ?_
        first | refine al_opd rfl rfl rfl ((ao_storeL Try.sizeOf37 (by rfl) (by rfl) (by ((repeat (first | exact blk_push_new _ _ | assumption | apply blk_push_old | apply blk_set_same | refine (blk_set_ne (by first | assumption | omega | (simp only [next_push, next_set, next_kill, ne_eq]; omega))).trans ?_ | refine (blk_kill_ne (by first | assumption | omega | (simp only [next_push, next_set, next_kill, ne_eq]; omega))).trans ?_)); (first | done | fail))) (by first | rfl | (simp; (first | done | fail))) (by first | rfl | (simp; (first | done | fail))) (by first | rfl | (simp; (first | done | fail)))).to (SetR.eq (by (repeat (first | exact SetR.new | exact SetR.same | (apply SetR.old; · exact ⟨_, by ((repeat (first | exact blk_push_new _ _ | assumption | apply blk_push_old | apply blk_set_same | refine (blk_set_ne (by first | assumption | omega | (simp only [next_push, next_set, next_kill, ne_eq]; omega))).trans ?_ | refine (blk_kill_ne (by first | assumption | omega | (simp only [next_push, next_set, next_kill, ne_eq]; omega))).trans ?_)); (first | done | fail))⟩) | exact SetR.base))))) ?_ | refine al_opd rfl rfl rfl ((ao_storeP (ds := [.int _ _, .slice _ _ _]) Try.sizeOf37 (by rfl) (by rfl) (by ((repeat (first | exact blk_push_new _ _ | assumption | apply blk_push_old | apply blk_set_same | refine (blk_set_ne (by first | assumption | omega | (simp only [next_push, next_set, next_kill, ne_eq]; omega))).trans ?_ | refine (blk_kill_ne (by first | assumption | omega | (simp only [next_push, next_set, next_kill, ne_eq]; omega))).trans ?_)); (first | done | fail))) (by first | rfl | (simp; (first | done | fail))) (by first | rfl | (simp; (first | done | fail))) (by first | decide | (simp; (first | done | fail)) | (simp; omega))).to (SetR.eq (by (repeat (first | exact SetR.new | exact SetR.same | (apply SetR.old; · exact ⟨_, by ((repeat (first | exact blk_push_new _ _ | assumption | apply blk_push_old | apply blk_set_same | refine (blk_set_ne (by first | assumption | omega | (simp only [next_push, next_set, next_kill, ne_eq]; omega))).trans ?_ | refine (blk_kill_ne (by first | assumption | omega | (simp only [next_push, next_set, next_kill, ne_eq]; omega))).trans ?_)); (first | done | fail))⟩) | exact SetR.base))))) ?_
        refine al_nilT ?_
        refine aw_seq ?_
        refine aw_region ?_
        first | refine al_opd rfl rfl rfl (ao_mv (v := .slice _ _ _) rfl) ?_ | refine al_opd rfl rfl rfl (ao_mv (v := v) rfl) ?_ | refine al_opd rfl rfl rfl (ao_mv (v := u) rfl) ?_ | refine al_opd rfl rfl rfl (ao_mv (v := y) rfl) ?_
        refine al_opd rfl rfl rfl (ao_calld (toHoldS_c (v := u) (l := hs) (hh.mono (by (repeat (first | exact Same.refl _ _ | assumption | refine Same.push ?_ (by (first | exact Nat.le_refl _ | omega | (simp only [next_push, next_set, next_kill]; omega))) _ | refine Same.set ?_ (by (first | exact Nat.le_refl _ | omega | (simp only [next_push, next_set, next_kill]; omega))) _ | refine Same.kill ?_ (by (first | exact Nat.le_refl _ | omega | (simp only [next_push, next_set, next_kill]; omega))))))) (by omega)) Try.call23 rfl rfl) ?_
        first | refine al_opd rfl rfl rfl (ao_as (v := .slice _ _ _) rfl) ?_ | refine al_opd rfl rfl rfl (ao_as (v := v) rfl) ?_ | refine al_opd rfl rfl rfl (ao_as (v := u) rfl) ?_ | refine al_opd rfl rfl rfl (ao_as (v := y) rfl) ?_
        refine al_nilT ?_
        refine aw_seq ?_
        refine aw_region ?_
        first | refine al_opd rfl rfl rfl (ao_mv (v := .slice _ _ _) rfl) ?_ | refine al_opd rfl rfl rfl (ao_mv (v := v) rfl) ?_ | refine al_opd rfl rfl rfl (ao_mv (v := u) rfl) ?_ | refine al_opd rfl rfl rfl (ao_mv (v := y) rfl) ?_
        refine al_opd rfl rfl rfl (ao_calld (toSaidS_c (v := y) (l := sd) (hy.mono (by (repeat (first | exact Same.refl _ _ | assumption | refine Same.push ?_ (by (first | exact Nat.le_refl _ | omega | (simp only [next_push, next_set, next_kill]; omega))) _ | refine Same.set ?_ (by (first | exact Nat.le_refl _ | omega | (simp only [next_push, next_set, next_kill]; omega))) _ | refine Same.kill ?_ (by (first | exact Nat.le_refl _ | omega | (simp only [next_push, next_set, next_kill]; omega))))))) (by omega)) Try.call58 rfl rfl) ?_
        first | refine al_opd rfl rfl rfl (ao_as (v := .slice _ _ _) rfl) ?_ | refine al_opd rfl rfl rfl (ao_as (v := v) rfl) ?_ | refine al_opd rfl rfl rfl (ao_as (v := u) rfl) ?_ | refine al_opd rfl rfl rfl (ao_as (v := y) rfl) ?_
        refine al_nilT ?_
        refine aw_seq ?_
        refine aw_region ?_
        refine al_opd rfl rfl rfl (ao_loada Try.isAgg37 Try.sizeOf37 rfl (by ((repeat (first | exact blk_push_new _ _ | assumption | apply blk_push_old | apply blk_set_same | refine (blk_set_ne (by first | assumption | omega | (simp only [next_push, next_set, next_kill, ne_eq]; omega))).trans ?_ | refine (blk_kill_ne (by first | assumption | omega | (simp only [next_push, next_set, next_kill, ne_eq]; omega))).trans ?_)); (first | done | fail))) (by rfl) (by first | rfl | (simp; (first | done | fail)))) ?_
        first | refine al_opd rfl rfl rfl (ao_mv (v := .slice _ _ _) rfl) ?_ | refine al_opd rfl rfl rfl (ao_mv (v := v) rfl) ?_ | refine al_opd rfl rfl rfl (ao_mv (v := u) rfl) ?_ | refine al_opd rfl rfl rfl (ao_mv (v := y) rfl) ?_
        first | refine al_opd rfl rfl rfl (ao_mv (v := .slice _ _ _) rfl) ?_ | refine al_opd rfl rfl rfl (ao_mv (v := v) rfl) ?_ | refine al_opd rfl rfl rfl (ao_mv (v := u) rfl) ?_ | refine al_opd rfl rfl rfl (ao_mv (v := y) rfl) ?_
        refine al_opd rfl rfl rfl (ao_calld (implFault0_c (L := L) (ks := l) (hs := hs) (sd := sd) (Sl.full i16_len (by ((repeat (first | exact blk_push_new _ _ | assumption | apply blk_push_old | apply blk_set_same | refine (blk_set_ne (by first | assumption | omega | (simp only [next_push, next_set, next_kill, ne_eq]; omega))).trans ?_ | refine (blk_kill_ne (by first | assumption | omega | (simp only [next_push, next_set, next_kill, ne_eq]; omega))).trans ?_)); (first | done | fail))) rfl rfl rfl) (by ((repeat (first | exact blk_push_new _ _ | assumption | apply blk_push_old | apply blk_set_same | refine (blk_set_ne (by first | assumption | omega | (simp only [next_push, next_set, next_kill, ne_eq]; omega))).trans ?_ | refine (blk_kill_ne (by first | assumption | omega | (simp only [next_push, next_set, next_kill, ne_eq]; omega))).trans ?_)); (first | done | fail))) (by omega) (by omega) (by omega) hL hw (Sl.full said_len (by ((repeat (first | exact blk_push_new _ _ | assumption | apply blk_push_old | apply blk_set_same | refine (blk_set_ne (by first | assumption | omega | (simp only [next_push, next_set, next_kill, ne_eq]; omega))).trans ?_ | refine (blk_kill_ne (by first | assumption | omega | (simp only [next_push, next_set, next_kill, ne_eq]; omega))).trans ?_)); (first | done | fail))) rfl rfl rfl) (by omega) hv) Try.call59 rfl rfl) ?_
        refine al_opd rfl rfl rfl (ao_mv (v := .tuple _) rfl) ?_
        refine al_opd rfl rfl rfl (ao_extract (v := .int _ _) rfl rfl) ?_
        refine al_opd rfl rfl rfl (ao_extract (v := .int _ _) rfl rfl) ?_
        refine al_opd rfl rfl rfl (ao_as (v := .int _ _) rfl) ?_
        refine al_opd rfl rfl rfl (ao_as (v := .int _ _) rfl) ?_
        refine al_nilT ?_
        refine aw_seq ?_
        refine aw_seq ?_
        refine aw_region ?_
        refine al_opd rfl rfl rfl (ao_mv (v := .int _ _) rfl) ?_
        refine al_opd rfl rfl rfl (ao_mv (v := .int _ _) rfl) ?_
        refine al_opd rfl rfl rfl (ao_neq rfl rfl) ?_
        refine al_opd rfl rfl rfl (ao_mv (v := .bool _) rfl) ?_
        refine al_cases (d := 56) rfl (fun h4_ => ?_) (fun h4_ => ?_)
        · try simp only [decide_eq_true_eq, decide_eq_false_iff_not, Bool.not_eq_true', Bool.not_eq_false', Bool.and_eq_true, Bool.or_eq_true, Bool.and_eq_false_iff, Bool.or_eq_false_iff, beq_iff_eq, bne_iff_ne, beq_eq_false_iff_ne, bne_eq_false_iff_eq, ne_eq, Decidable.not_not, Bool.decide_eq_true] at h4_
          first | done | omega | (exfalso; revert h4_; simp; (first | done | omega))
        · try simp only [decide_eq_true_eq, decide_eq_false_iff_not, Bool.not_eq_true', Bool.not_eq_false', Bool.and_eq_true, Bool.or_eq_true, Bool.and_eq_false_iff, Bool.or_eq_false_iff, beq_iff_eq, bne_iff_ne, beq_eq_false_iff_ne, bne_eq_false_iff_eq, ne_eq, Decidable.not_not, Bool.decide_eq_true] at h4_
          refine al_gyes rfl rfl rfl rfl rfl (ao_mv (v := .int _ _) rfl) ?_
          refine al_gyes rfl rfl rfl rfl rfl (ao_mv (v := .int _ _) rfl) ?_
          refine al_gyes rfl rfl rfl rfl rfl (ao_neq rfl rfl) ?_
          refine al_opd rfl rfl rfl (ao_pickF rfl (v := .bool _) rfl) ?_
          refine al_nilT ?_
          refine aw_cond rfl (fun h5_ => ?_) (fun h5_ => ?_)
          · try simp only [decide_eq_true_eq, decide_eq_false_iff_not, Bool.not_eq_true', Bool.not_eq_false', Bool.and_eq_true, Bool.or_eq_true, Bool.and_eq_false_iff, Bool.or_eq_false_iff, beq_iff_eq, bne_iff_ne, beq_eq_false_iff_ne, bne_eq_false_iff_eq, ne_eq, Decidable.not_not, Bool.decide_eq_true] at h5_
            first | done | omega | (exfalso; revert h5_; simp; (first | done | omega))
          · try simp only [decide_eq_true_eq, decide_eq_false_iff_not, Bool.not_eq_true', Bool.not_eq_false', Bool.and_eq_true, Bool.or_eq_true, Bool.and_eq_false_iff, Bool.or_eq_false_iff, beq_iff_eq, bne_iff_ne, beq_eq_false_iff_ne, bne_eq_false_iff_eq, ne_eq, Decidable.not_not, Bool.decide_eq_true] at h5_
            refine aw_skipT ?_
            refine aw_seq ?_
            refine aw_seq ?_
            refine aw_draw (m := 5) mo (by kernel_rfl) rfl ?_
            refine dw_opd rfl rfl rfl (ao_loada Try.isAgg37 Try.sizeOf37 rfl (by ((repeat (first | exact blk_push_new _ _ | assumption | apply blk_push_old | apply blk_set_same | refine (blk_set_ne (by first | assumption | omega | (simp only [next_push, next_set, next_kill, ne_eq]; omega))).trans ?_ | refine (blk_kill_ne (by first | assumption | omega | (simp only [next_push, next_set, next_kill, ne_eq]; omega))).trans ?_)); (first | done | fail))) (by rfl) (by first | rfl | (simp; (first | done | fail)))) ?_
            refine dw_opd rfl rfl rfl (ao_loada Try.isAgg34 Try.sizeOf34 rfl (by ((repeat (first | exact blk_push_new _ _ | assumption | apply blk_push_old | apply blk_set_same | refine (blk_set_ne (by first | assumption | omega | (simp only [next_push, next_set, next_kill, ne_eq]; omega))).trans ?_ | refine (blk_kill_ne (by first | assumption | omega | (simp only [next_push, next_set, next_kill, ne_eq]; omega))).trans ?_)); (first | done | fail))) (by rfl) (by first | rfl | (simp; (first | done | fail)))) ?_
            refine dw_opn rfl rfl rfl (ao_calld (toRope_c (L := L) (v := v) (l := l) (ha.mono (by (repeat (first | exact Same.refl _ _ | assumption | refine Same.push ?_ (by (first | exact Nat.le_refl _ | omega | (simp only [next_push, next_set, next_kill]; omega))) _ | refine Same.set ?_ (by (first | exact Nat.le_refl _ | omega | (simp only [next_push, next_set, next_kill]; omega))) _ | refine Same.kill ?_ (by (first | exact Nat.le_refl _ | omega | (simp only [next_push, next_set, next_kill]; omega))))))) (by omega)) Try.call28 rfl rfl) ?_
            refine dw_opd rfl rfl rfl (ao_calld (eqRope_c (L := L) (M := L) (l := l) (m := l) (Sl.full i16_len (by ((repeat (first | exact blk_push_new _ _ | assumption | apply blk_push_old | apply blk_set_same | refine (blk_set_ne (by first | assumption | omega | (simp only [next_push, next_set, next_kill, ne_eq]; omega))).trans ?_ | refine (blk_kill_ne (by first | assumption | omega | (simp only [next_push, next_set, next_kill, ne_eq]; omega))).trans ?_)); (first | done | fail))) rfl rfl rfl) (Sl.full i16_len (by ((repeat (first | exact blk_push_new _ _ | assumption | apply blk_push_old | apply blk_set_same | refine (blk_set_ne (by first | assumption | omega | (simp only [next_push, next_set, next_kill, ne_eq]; omega))).trans ?_ | refine (blk_kill_ne (by first | assumption | omega | (simp only [next_push, next_set, next_kill, ne_eq]; omega))).trans ?_)); (first | done | fail))) rfl rfl rfl) (by omega)) Try.call30 rfl rfl) ?_
            refine dw_opd rfl rfl rfl (ao_not rfl) ?_
            refine dw_end ?_
            refine al_nilT ?_
            refine aw_cond rfl (fun h6_ => ?_) (fun h6_ => ?_)
            · try simp only [decide_eq_true_eq, decide_eq_false_iff_not, Bool.not_eq_true', Bool.not_eq_false', Bool.and_eq_true, Bool.or_eq_true, Bool.and_eq_false_iff, Bool.or_eq_false_iff, beq_iff_eq, bne_iff_ne, beq_eq_false_iff_ne, bne_eq_false_iff_eq, ne_eq, Decidable.not_not, Bool.decide_eq_true] at h6_
              first | done | omega | (exfalso; revert h6_; simp; (first | done | omega))
            · try simp only [decide_eq_true_eq, decide_eq_false_iff_not, Bool.not_eq_true', Bool.not_eq_false', Bool.and_eq_true, Bool.or_eq_true, Bool.and_eq_false_iff, Bool.or_eq_false_iff, beq_iff_eq, bne_iff_ne, beq_eq_false_iff_ne, bne_eq_false_iff_eq, ne_eq, Decidable.not_not, Bool.decide_eq_true] at h6_
              refine aw_skipT ?_
              refine aw_seq ?_
              refine aw_seq ?_
              refine aw_region ?_
              first | refine al_opd rfl rfl rfl (ao_mv (v := .slice _ _ _) rfl) ?_ | refine al_opd rfl rfl rfl (ao_mv (v := v) rfl) ?_ | refine al_opd rfl rfl rfl (ao_mv (v := u) rfl) ?_ | refine al_opd rfl rfl rfl (ao_mv (v := y) rfl) ?_
              first | refine al_opd rfl rfl rfl (ao_mv (v := .slice _ _ _) rfl) ?_ | refine al_opd rfl rfl rfl (ao_mv (v := v) rfl) ?_ | refine al_opd rfl rfl rfl (ao_mv (v := u) rfl) ?_ | refine al_opd rfl rfl rfl (ao_mv (v := y) rfl) ?_
              refine al_opd rfl rfl rfl (ao_calld (toHoldS_c (v := u) (l := hs) (hh.mono (by (repeat (first | exact Same.refl _ _ | assumption | refine Same.push ?_ (by (first | exact Nat.le_refl _ | omega | (simp only [next_push, next_set, next_kill]; omega))) _ | refine Same.set ?_ (by (first | exact Nat.le_refl _ | omega | (simp only [next_push, next_set, next_kill]; omega))) _ | refine Same.kill ?_ (by (first | exact Nat.le_refl _ | omega | (simp only [next_push, next_set, next_kill]; omega))))))) (by omega)) Try.call23 rfl rfl) ?_
              refine al_opd rfl rfl rfl (ao_calld (eqHoldS_c (l := hs) (m := hs) (Sl.full hold_len (by ((repeat (first | exact blk_push_new _ _ | assumption | apply blk_push_old | apply blk_set_same | refine (blk_set_ne (by first | assumption | omega | (simp only [next_push, next_set, next_kill, ne_eq]; omega))).trans ?_ | refine (blk_kill_ne (by first | assumption | omega | (simp only [next_push, next_set, next_kill, ne_eq]; omega))).trans ?_)); (first | done | fail))) rfl rfl rfl) (Sl.full hold_len (by ((repeat (first | exact blk_push_new _ _ | assumption | apply blk_push_old | apply blk_set_same | refine (blk_set_ne (by first | assumption | omega | (simp only [next_push, next_set, next_kill, ne_eq]; omega))).trans ?_ | refine (blk_kill_ne (by first | assumption | omega | (simp only [next_push, next_set, next_kill, ne_eq]; omega))).trans ?_)); (first | done | fail))) rfl rfl rfl) (by omega)) Try.call25 rfl rfl) ?_
              refine al_opd rfl rfl rfl (ao_not rfl) ?_
              refine al_nilT ?_
              refine aw_cond rfl (fun h7_ => ?_) (fun h7_ => ?_)
              · try simp only [decide_eq_true_eq, decide_eq_false_iff_not, Bool.not_eq_true', Bool.not_eq_false', Bool.and_eq_true, Bool.or_eq_true, Bool.and_eq_false_iff, Bool.or_eq_false_iff, beq_iff_eq, bne_iff_ne, beq_eq_false_iff_ne, bne_eq_false_iff_eq, ne_eq, Decidable.not_not, Bool.decide_eq_true] at h7_
                first | done | omega | (exfalso; revert h7_; simp; (first | done | omega))
              · try simp only [decide_eq_true_eq, decide_eq_false_iff_not, Bool.not_eq_true', Bool.not_eq_false', Bool.and_eq_true, Bool.or_eq_true, Bool.and_eq_false_iff, Bool.or_eq_false_iff, beq_iff_eq, bne_iff_ne, beq_eq_false_iff_ne, bne_eq_false_iff_eq, ne_eq, Decidable.not_not, Bool.decide_eq_true] at h7_
                refine aw_skipT ?_
                refine aw_seq ?_
                refine aw_seq ?_
                refine aw_region ?_
                first | refine al_opd rfl rfl rfl (ao_mv (v := .slice _ _ _) rfl) ?_ | refine al_opd rfl rfl rfl (ao_mv (v := v) rfl) ?_ | refine al_opd rfl rfl rfl (ao_mv (v := u) rfl) ?_ | refine al_opd rfl rfl rfl (ao_mv (v := y) rfl) ?_
                first | refine al_opd rfl rfl rfl (ao_mv (v := .slice _ _ _) rfl) ?_ | refine al_opd rfl rfl rfl (ao_mv (v := v) rfl) ?_ | refine al_opd rfl rfl rfl (ao_mv (v := u) rfl) ?_ | refine al_opd rfl rfl rfl (ao_mv (v := y) rfl) ?_
                refine al_opd rfl rfl rfl (ao_calld (toSaidS_c (v := y) (l := sd) (hy.mono (by (repeat (first | exact Same.refl _ _ | assumption | refine Same.push ?_ (by (first | exact Nat.le_refl _ | omega | (simp only [next_push, next_set, next_kill]; omega))) _ | refine Same.set ?_ (by (first | exact Nat.le_refl _ | omega | (simp only [next_push, next_set, next_kill]; omega))) _ | refine Same.kill ?_ (by (first | exact Nat.le_refl _ | omega | (simp only [next_push, next_set, next_kill]; omega))))))) (by omega)) Try.call58 rfl rfl) ?_
                refine al_opd rfl rfl rfl (ao_calld (eqSaidS_c (l := sd) (m := sd) (Sl.full said_len (by ((repeat (first | exact blk_push_new _ _ | assumption | apply blk_push_old | apply blk_set_same | refine (blk_set_ne (by first | assumption | omega | (simp only [next_push, next_set, next_kill, ne_eq]; omega))).trans ?_ | refine (blk_kill_ne (by first | assumption | omega | (simp only [next_push, next_set, next_kill, ne_eq]; omega))).trans ?_)); (first | done | fail))) rfl rfl rfl) (Sl.full said_len (by ((repeat (first | exact blk_push_new _ _ | assumption | apply blk_push_old | apply blk_set_same | refine (blk_set_ne (by first | assumption | omega | (simp only [next_push, next_set, next_kill, ne_eq]; omega))).trans ?_ | refine (blk_kill_ne (by first | assumption | omega | (simp only [next_push, next_set, next_kill, ne_eq]; omega))).trans ?_)); (first | done | fail))) rfl rfl rfl) (by omega)) Try.call60 rfl rfl) ?_
                refine al_opd rfl rfl rfl (ao_not rfl) ?_
                refine al_nilT ?_
                refine aw_cond rfl (fun h8_ => ?_) (fun h8_ => ?_)
                · try simp only [decide_eq_true_eq, decide_eq_false_iff_not, Bool.not_eq_true', Bool.not_eq_false', Bool.and_eq_true, Bool.or_eq_true, Bool.and_eq_false_iff, Bool.or_eq_false_iff, beq_iff_eq, bne_iff_ne, beq_eq_false_iff_ne, bne_eq_false_iff_eq, ne_eq, Decidable.not_not, Bool.decide_eq_true] at h8_
                  first | done | omega | (exfalso; revert h8_; simp; (first | done | omega))
                · try simp only [decide_eq_true_eq, decide_eq_false_iff_not, Bool.not_eq_true', Bool.not_eq_false', Bool.and_eq_true, Bool.or_eq_true, Bool.and_eq_false_iff, Bool.or_eq_false_iff, beq_iff_eq, bne_iff_ne, beq_eq_false_iff_ne, bne_eq_false_iff_eq, ne_eq, Decidable.not_not, Bool.decide_eq_true] at h8_
                  refine aw_skipT ?_
                  refine aw_seq ?_
                  refine aw_region ?_
                  refine al_opd rfl rfl rfl (ao_as (v := .bool _) rfl) ?_
                  refine al_nilT ?_
                  refine aw_ret ?_
                  refine ends1 rfl (rv_tmp (v := .bool _) rfl) ?_
                  exact ⟨by first | rfl | (simp [*]; (first | done | fail)), by (repeat (first | exact Same.refl _ _ | assumption | refine Same.push ?_ (by (first | exact Nat.le_refl _ | omega | (simp only [next_push, next_set, next_kill]; omega))) _ | refine Same.set ?_ (by (first | exact Nat.le_refl _ | omega | (simp only [next_push, next_set, next_kill]; omega))) _ | refine Same.kill ?_ (by (first | exact Nat.le_refl _ | omega | (simp only [next_push, next_set, next_kill]; omega)))))⟩

theorem lawFault_c {L : Int} {v u : Value} {l : List Int} {hs : List Hold} {y : Value} {sd : List Said} {H : AHeap} (ha : Sl H i16 1 v l) (hh : Sl H hold 2 u hs) (hl : l.length ≤ 9223372036854775807) (hm : hs.length ≤ 9223372036854775807) (hL : -32768 ≤ L ∧ L ≤ 32767) (hw : holdOk hs) (hy : Sl H said 2 y sd) (hd : sd.length ≤ 9223372036854775807) : ACd Try.prog 16 [.agg #[.int .i16 L, v], u, y] H (.bool true) H := by
  by_cases hv : okRope L l ∧ okHolds l.length hs
  · exact lawFault1_c ha hh hl hm hL hw hy hd hv
  · exact lawFault0_c ha hh hl hm hL hw hy hd hv

end Go.Proofs.Ytohaokdgokknaaa
