/- Contracts of the program's functions over abstract heaps. -/
import Derived.Test.YtohaokdgokknaaaLaws
import Derived.Test.YtohaokdgokknaaaVh
import Derived.Test.YtohaokdgokknaaaCnt
import Derived.Test.YtohaokdgokknaaaCnt2
namespace Go.Proofs.Ytohaokdgokknaaa
open Go Go.AW Go.Proofs
set_option linter.unusedVariables false
set_option linter.unusedSimpArgs false
set_option maxRecDepth 100000
set_option maxHeartbeats 2000000

-- spec.CheckCount
theorem specCheck1_c {L : Int} {v : Value} {ks : List Int} {hs : List Hold} {lb c : Nat} {y : Value} {sd : List Said} {H : AHeap} (ha0 : Sl H i16 1 v ks) (hk0 : H.blk lb = some (.cells (fl hold hs) 2)) (hcc : hs.length ≤ c) (hlen : ks.length ≤ 4194304) (hn : hs.length ≤ 4194304) (hL : -32768 ≤ L ∧ L ≤ 32767) (hw : holdOk hs) (hy0 : Sl H said 2 y sd) (hd : sd.length ≤ 4194304) (hv : okRope L ks ∧ okHolds ks.length hs) : ACd Try.prog 65 [.agg #[.int .i16 L, v], .slice (some ⟨lb, 0, none⟩) hs.length c, y] H (.tuple #[.bool (decide (counts hs = sd)), .int .i64 0]) (H) := by
  have hh0 : Sl H hold 2 (.slice (some ⟨lb, 0, none⟩) hs.length c) hs := Sl.full hold_len hk0 rfl rfl rfl
  have hlt0 := AHeap.lt hk0
  have hcl := counts_len hs
  refine ac_gc0 (fun β => VR.plainT β (by first | rfl | simp [plainT, plainV, plain1])) (ac_body Try.func65 rfl Try.ntmps65 rfl ?_)
  refine aw_seq ?_
  refine aw_region ?_
  refine al_opd rfl rfl rfl (ao_boxa (by rfl)) ?_
  refine al_opd rfl rfl rfl (ao_as (v := .bool _) rfl) ?_
  refine al_opd rfl rfl rfl (ao_as (v := .int _ _) rfl) ?_
  refine al_nilT ?_
  refine aw_seq ?_
  refine aw_seq ?_
  refine aw_region ?_
  first | refine al_opd rfl rfl rfl (ao_mv (v := .slice _ _ _) rfl) ?_ | refine al_opd rfl rfl rfl (ao_mv (v := v) rfl) ?_ | refine al_opd rfl rfl rfl (ao_mv (v := y) rfl) ?_
  refine al_opd rfl rfl rfl (ao_calld (l03Holds_c (L := L) (v := v) (ks := ks) (hs := hs) (b := true) (ha0.mono (by (repeat (first | exact Same.refl _ _ | assumption | refine Same.push ?_ (by (first | exact Nat.le_refl _ | omega | (simp only [next_push, next_set, next_kill]; omega))) _ | refine Same.set ?_ (by (first | exact Nat.le_refl _ | omega | (simp only [next_push, next_set, next_kill]; omega))) _ | refine Same.kill ?_ (by (first | exact Nat.le_refl _ | omega | (simp only [next_push, next_set, next_kill]; omega))))))) (hh0.mono (by (repeat (first | exact Same.refl _ _ | assumption | refine Same.push ?_ (by (first | exact Nat.le_refl _ | omega | (simp only [next_push, next_set, next_kill]; omega))) _ | refine Same.set ?_ (by (first | exact Nat.le_refl _ | omega | (simp only [next_push, next_set, next_kill]; omega))) _ | refine Same.kill ?_ (by (first | exact Nat.le_refl _ | omega | (simp only [next_push, next_set, next_kill]; omega))))))) (by ((repeat (first | exact blk_push_new _ _ | assumption | apply blk_push_old | apply blk_set_same | refine (blk_set_ne (by first | assumption | omega | (simp only [next_push, next_set, next_kill, ne_eq]; omega))).trans ?_ | refine (blk_kill_ne (by first | assumption | omega | (simp only [next_push, next_set, next_kill, ne_eq]; omega))).trans ?_)); (first | done | fail))) hlen hn hL hw (yes hv)) Try.call84 rfl rfl) ?_
  refine al_opd rfl rfl rfl (ao_not rfl) ?_
  refine al_nilT ?_
  refine aw_cond rfl (fun h1_ => ?_) (fun h1_ => ?_)
  · try simp only [decide_eq_true_eq, decide_eq_false_iff_not, Bool.not_eq_true', Bool.not_eq_false', Bool.and_eq_true, Bool.or_eq_true, Bool.and_eq_false_iff, Bool.or_eq_false_iff, beq_iff_eq, bne_iff_ne, beq_eq_false_iff_ne, bne_eq_false_iff_eq, ne_eq, Decidable.not_not, Bool.decide_eq_true] at h1_
    first | done | omega | (exfalso; revert h1_; simp; (first | done | omega))
  · try simp only [decide_eq_true_eq, decide_eq_false_iff_not, Bool.not_eq_true', Bool.not_eq_false', Bool.and_eq_true, Bool.or_eq_true, Bool.and_eq_false_iff, Bool.or_eq_false_iff, beq_iff_eq, bne_iff_ne, beq_eq_false_iff_ne, bne_eq_false_iff_eq, ne_eq, Decidable.not_not, Bool.decide_eq_true] at h1_
    refine aw_skipT ?_
    refine aw_seq ?_
    refine aw_region ?_
    first | refine al_opd rfl rfl rfl (ao_mv (v := .slice _ _ _) rfl) ?_ | refine al_opd rfl rfl rfl (ao_mv (v := v) rfl) ?_ | refine al_opd rfl rfl rfl (ao_mv (v := y) rfl) ?_
    refine al_opd rfl rfl rfl (ao_calld (l03Count_c (w := .slice (some ⟨lb, 0, none⟩) hs.length c) (hs := hs) (hh0.mono (by (repeat (first | exact Same.refl _ _ | assumption | refine Same.push ?_ (by (first | exact Nat.le_refl _ | omega | (simp only [next_push, next_set, next_kill]; omega))) _ | refine Same.set ?_ (by (first | exact Nat.le_refl _ | omega | (simp only [next_push, next_set, next_kill]; omega))) _ | refine Same.kill ?_ (by (first | exact Nat.le_refl _ | omega | (simp only [next_push, next_set, next_kill]; omega))))))) hn (fun i x hx => by have := (hv.2 i x hx).1; unfold inRange at this; omega)) Try.call96 rfl rfl) ?_
    first | refine al_opd rfl rfl rfl (ao_mv (v := .slice _ _ _) rfl) ?_ | refine al_opd rfl rfl rfl (ao_mv (v := v) rfl) ?_ | refine al_opd rfl rfl rfl (ao_mv (v := y) rfl) ?_
    refine al_opd rfl rfl rfl (ao_calld (specSameSaid_c (l := counts hs) (m := sd) (Sl.full said_len (by ((repeat (first | exact blk_push_new _ _ | assumption | apply blk_push_old | apply blk_set_same | refine (blk_set_ne (by first | assumption | omega | (simp only [next_push, next_set, next_kill, ne_eq]; omega))).trans ?_ | refine (blk_kill_ne (by first | assumption | omega | (simp only [next_push, next_set, next_kill, ne_eq]; omega))).trans ?_)); (first | done | fail))) rfl rfl rfl) (hy0.mono (by (repeat (first | exact Same.refl _ _ | assumption | refine Same.push ?_ (by (first | exact Nat.le_refl _ | omega | (simp only [next_push, next_set, next_kill]; omega))) _ | refine Same.set ?_ (by (first | exact Nat.le_refl _ | omega | (simp only [next_push, next_set, next_kill]; omega))) _ | refine Same.kill ?_ (by (first | exact Nat.le_refl _ | omega | (simp only [next_push, next_set, next_kill]; omega))))))) (by omega)) Try.call98 rfl rfl) ?_
    refine al_opd rfl rfl rfl (ao_as (v := .bool _) rfl) ?_
    refine al_opd rfl rfl rfl (ao_as (v := .int _ _) rfl) ?_
    refine al_nilT ?_
    refine aw_ret ?_
    refine ends2 rfl (rv_tmp (v := .bool _) rfl) (rv_tmp (v := .int _ _) rfl) ?_
    exact ⟨by first | rfl | (simp [*]; (first | done | fail)), by (repeat (first | exact Same.refl _ _ | assumption | refine Same.push ?_ (by (first | exact Nat.le_refl _ | omega | (simp only [next_push, next_set, next_kill]; omega))) _ | refine Same.set ?_ (by (first | exact Nat.le_refl _ | omega | (simp only [next_push, next_set, next_kill]; omega))) _ | refine Same.kill ?_ (by (first | exact Nat.le_refl _ | omega | (simp only [next_push, next_set, next_kill]; omega)))))⟩

-- spec.CheckCount
theorem specCheck0_c {L : Int} {v : Value} {ks : List Int} {hs : List Hold} {lb c : Nat} {y : Value} {sd : List Said} {H : AHeap} (ha0 : Sl H i16 1 v ks) (hk0 : H.blk lb = some (.cells (fl hold hs) 2)) (hcc : hs.length ≤ c) (hlen : ks.length ≤ 4194304) (hn : hs.length ≤ 4194304) (hL : -32768 ≤ L ∧ L ≤ 32767) (hw : holdOk hs) (hy0 : Sl H said 2 y sd) (hd : sd.length ≤ 4194304) (hv : ¬ (okRope L ks ∧ okHolds ks.length hs)) : ACd Try.prog 65 [.agg #[.int .i16 L, v], .slice (some ⟨lb, 0, none⟩) hs.length c, y] H (.tuple #[.bool false, .int .i64 1]) (H) := by
  have hh0 : Sl H hold 2 (.slice (some ⟨lb, 0, none⟩) hs.length c) hs := Sl.full hold_len hk0 rfl rfl rfl
  have hlt0 := AHeap.lt hk0
  refine ac_gc0 (fun β => VR.plainT β (by first | rfl | simp [plainT, plainV, plain1])) (ac_body Try.func65 rfl Try.ntmps65 rfl ?_)
  refine aw_seq ?_
  refine aw_region ?_
  refine al_opd rfl rfl rfl (ao_boxa (by rfl)) ?_
  refine al_opd rfl rfl rfl (ao_as (v := .bool _) rfl) ?_
  refine al_opd rfl rfl rfl (ao_as (v := .int _ _) rfl) ?_
  refine al_nilT ?_
  refine aw_seq ?_
  refine aw_seq ?_
  refine aw_region ?_
  first | refine al_opd rfl rfl rfl (ao_mv (v := .slice _ _ _) rfl) ?_ | refine al_opd rfl rfl rfl (ao_mv (v := v) rfl) ?_ | refine al_opd rfl rfl rfl (ao_mv (v := y) rfl) ?_
  refine al_opd rfl rfl rfl (ao_calld (l03Holds_c (L := L) (v := v) (ks := ks) (hs := hs) (b := false) (ha0.mono (by (repeat (first | exact Same.refl _ _ | assumption | refine Same.push ?_ (by (first | exact Nat.le_refl _ | omega | (simp only [next_push, next_set, next_kill]; omega))) _ | refine Same.set ?_ (by (first | exact Nat.le_refl _ | omega | (simp only [next_push, next_set, next_kill]; omega))) _ | refine Same.kill ?_ (by (first | exact Nat.le_refl _ | omega | (simp only [next_push, next_set, next_kill]; omega))))))) (hh0.mono (by (repeat (first | exact Same.refl _ _ | assumption | refine Same.push ?_ (by (first | exact Nat.le_refl _ | omega | (simp only [next_push, next_set, next_kill]; omega))) _ | refine Same.set ?_ (by (first | exact Nat.le_refl _ | omega | (simp only [next_push, next_set, next_kill]; omega))) _ | refine Same.kill ?_ (by (first | exact Nat.le_refl _ | omega | (simp only [next_push, next_set, next_kill]; omega))))))) (by ((repeat (first | exact blk_push_new _ _ | assumption | apply blk_push_old | apply blk_set_same | refine (blk_set_ne (by first | assumption | omega | (simp only [next_push, next_set, next_kill, ne_eq]; omega))).trans ?_ | refine (blk_kill_ne (by first | assumption | omega | (simp only [next_push, next_set, next_kill, ne_eq]; omega))).trans ?_)); (first | done | fail))) hlen hn hL hw (no hv)) Try.call84 rfl rfl) ?_
  refine al_opd rfl rfl rfl (ao_not rfl) ?_
  refine al_nilT ?_
  refine aw_cond rfl (fun h1_ => ?_) (fun h1_ => ?_)
  · try simp only [decide_eq_true_eq, decide_eq_false_iff_not, Bool.not_eq_true', Bool.not_eq_false', Bool.and_eq_true, Bool.or_eq_true, Bool.and_eq_false_iff, Bool.or_eq_false_iff, beq_iff_eq, bne_iff_ne, beq_eq_false_iff_ne, bne_eq_false_iff_eq, ne_eq, Decidable.not_not, Bool.decide_eq_true] at h1_
    refine aw_seq ?_
    refine aw_region ?_
    refine al_opd rfl rfl rfl (ao_as (v := .bool _) rfl) ?_
    refine al_opd rfl rfl rfl (ao_as (v := .int _ _) rfl) ?_
    refine al_nilT ?_
    refine aw_ret ?_
    refine thenA_r ?_
    refine ends2 rfl (rv_tmp (v := .bool _) rfl) (rv_tmp (v := .int _ _) rfl) ?_
    exact ⟨by first | rfl | (simp [*]; (first | done | fail)), by (repeat (first | exact Same.refl _ _ | assumption | refine Same.push ?_ (by (first | exact Nat.le_refl _ | omega | (simp only [next_push, next_set, next_kill]; omega))) _ | refine Same.set ?_ (by (first | exact Nat.le_refl _ | omega | (simp only [next_push, next_set, next_kill]; omega))) _ | refine Same.kill ?_ (by (first | exact Nat.le_refl _ | omega | (simp only [next_push, next_set, next_kill]; omega)))))⟩
  · try simp only [decide_eq_true_eq, decide_eq_false_iff_not, Bool.not_eq_true', Bool.not_eq_false', Bool.and_eq_true, Bool.or_eq_true, Bool.and_eq_false_iff, Bool.or_eq_false_iff, beq_iff_eq, bne_iff_ne, beq_eq_false_iff_ne, bne_eq_false_iff_eq, ne_eq, Decidable.not_not, Bool.decide_eq_true] at h1_
    first | done | omega | (exfalso; revert h1_; simp; (first | done | omega))

-- impl.CheckCount
theorem implCheck1_c {L : Int} {v : Value} {ks : List Int} {hs : List Hold} {lb c : Nat} {y : Value} {sd : List Said} {H : AHeap} (ha0 : Sl H i16 1 v ks) (hk0 : H.blk lb = some (.cells (fl hold hs) 2)) (hcc : hs.length ≤ c) (hlen : ks.length ≤ 4194304) (hn : hs.length ≤ 4194304) (hL : -32768 ≤ L ∧ L ≤ 32767) (hw : holdOk hs) (hy0 : Sl H said 2 y sd) (hd : sd.length ≤ 4194304) (hv : okRope L ks ∧ okHolds ks.length hs) : ACd Try.prog 66 [.agg #[.int .i16 L, v], .slice (some ⟨lb, 0, none⟩) hs.length c, y] H (.tuple #[.bool (decide (counts hs = sd)), .int .i64 0]) (H) := by
  have hh0 : Sl H hold 2 (.slice (some ⟨lb, 0, none⟩) hs.length c) hs := Sl.full hold_len hk0 rfl rfl rfl
  have hlt0 := AHeap.lt hk0
  have hcl := counts_len hs
  refine ac_gc0 (fun β => VR.plainT β (by first | rfl | simp [plainT, plainV, plain1])) (ac_body Try.func66 rfl Try.ntmps66 rfl ?_)
  refine aw_seq ?_
  refine aw_region ?_
  refine al_opd rfl rfl rfl (ao_boxa (by rfl)) ?_
  refine al_opd rfl rfl rfl (ao_as (v := .bool _) rfl) ?_
  refine al_opd rfl rfl rfl (ao_as (v := .int _ _) rfl) ?_
  refine al_nilT ?_
  refine aw_seq ?_
  refine aw_region ?_
  refine al_opd rfl rfl rfl (ao_loada Try.isAgg37 Try.sizeOf37 rfl (by ((repeat (first | exact blk_push_new _ _ | assumption | apply blk_push_old | apply blk_set_same | refine (blk_set_ne (by first | assumption | omega | (simp only [next_push, next_set, next_kill, ne_eq]; omega))).trans ?_ | refine (blk_kill_ne (by first | assumption | omega | (simp only [next_push, next_set, next_kill, ne_eq]; omega))).trans ?_)); (first | done | fail))) (by rfl) (by first | rfl | (simp; (first | done | fail)))) ?_
  first | refine al_opd rfl rfl rfl (ao_mv (v := .slice _ _ _) rfl) ?_ | refine al_opd rfl rfl rfl (ao_mv (v := v) rfl) ?_ | refine al_opd rfl rfl rfl (ao_mv (v := y) rfl) ?_
  refine al_opd rfl rfl rfl (ao_calld (implCount1_c (L := L) (v := v) (ks := ks) (hs := hs) (ha0.mono (by (repeat (first | exact Same.refl _ _ | assumption | refine Same.push ?_ (by (first | exact Nat.le_refl _ | omega | (simp only [next_push, next_set, next_kill]; omega))) _ | refine Same.set ?_ (by (first | exact Nat.le_refl _ | omega | (simp only [next_push, next_set, next_kill]; omega))) _ | refine Same.kill ?_ (by (first | exact Nat.le_refl _ | omega | (simp only [next_push, next_set, next_kill]; omega))))))) (by ((repeat (first | exact blk_push_new _ _ | assumption | apply blk_push_old | apply blk_set_same | refine (blk_set_ne (by first | assumption | omega | (simp only [next_push, next_set, next_kill, ne_eq]; omega))).trans ?_ | refine (blk_kill_ne (by first | assumption | omega | (simp only [next_push, next_set, next_kill, ne_eq]; omega))).trans ?_)); (first | done | fail))) hcc hlen hn hL hw hv) Try.call62 rfl rfl) ?_
  refine al_opd rfl rfl rfl (ao_mv (v := .tuple _) rfl) ?_
  refine al_opd rfl rfl rfl (ao_extract (v := .slice _ _ _) rfl rfl) ?_
  refine al_opd rfl rfl rfl (ao_extract (v := .int _ _) rfl rfl) ?_
  first | refine al_opd rfl rfl rfl (ao_as (v := .slice _ _ _) rfl) ?_ | refine al_opd rfl rfl rfl (ao_as (v := v) rfl) ?_ | refine al_opd rfl rfl rfl (ao_as (v := y) rfl) ?_
  refine al_opd rfl rfl rfl (ao_as (v := .int _ _) rfl) ?_
  refine al_nilT ?_
  refine aw_seq ?_
  refine aw_region ?_
  refine al_opd rfl rfl rfl (ao_mv (v := .int _ _) rfl) ?_
  refine al_opd rfl rfl rfl (ao_eql rfl rfl) ?_
  refine al_opd rfl rfl rfl (ao_mv (v := .bool _) rfl) ?_
  refine al_cases (d := 18) rfl (fun h1_ => ?_) (fun h1_ => ?_)
  · try simp only [decide_eq_true_eq, decide_eq_false_iff_not, Bool.not_eq_true', Bool.not_eq_false', Bool.and_eq_true, Bool.or_eq_true, Bool.and_eq_false_iff, Bool.or_eq_false_iff, beq_iff_eq, bne_iff_ne, beq_eq_false_iff_ne, bne_eq_false_iff_eq, ne_eq, Decidable.not_not, Bool.decide_eq_true] at h1_
    first | refine al_gyes rfl rfl rfl rfl rfl (ao_mv (v := .slice _ _ _) rfl) ?_ | refine al_gyes rfl rfl rfl rfl rfl (ao_mv (v := v) rfl) ?_ | refine al_gyes rfl rfl rfl rfl rfl (ao_mv (v := y) rfl) ?_
    first | refine al_gyes rfl rfl rfl rfl rfl (ao_mv (v := .slice _ _ _) rfl) ?_ | refine al_gyes rfl rfl rfl rfl rfl (ao_mv (v := v) rfl) ?_ | refine al_gyes rfl rfl rfl rfl rfl (ao_mv (v := y) rfl) ?_
    refine al_gyes rfl rfl rfl rfl rfl (ao_calld (equalSaid_c (l := counts hs) (m := sd) (Sl.full said_len (by ((repeat (first | exact blk_push_new _ _ | assumption | apply blk_push_old | apply blk_set_same | refine (blk_set_ne (by first | assumption | omega | (simp only [next_push, next_set, next_kill, ne_eq]; omega))).trans ?_ | refine (blk_kill_ne (by first | assumption | omega | (simp only [next_push, next_set, next_kill, ne_eq]; omega))).trans ?_)); (first | done | fail))) rfl rfl rfl) (hy0.mono (by (repeat (first | exact Same.refl _ _ | assumption | refine Same.push ?_ (by (first | exact Nat.le_refl _ | omega | (simp only [next_push, next_set, next_kill]; omega))) _ | refine Same.set ?_ (by (first | exact Nat.le_refl _ | omega | (simp only [next_push, next_set, next_kill]; omega))) _ | refine Same.kill ?_ (by (first | exact Nat.le_refl _ | omega | (simp only [next_push, next_set, next_kill]; omega))))))) (by omega)) Try.call99 rfl rfl) ?_
    refine al_opd rfl rfl rfl (ao_pickT rfl (v := .bool _) rfl) ?_
    refine al_opd rfl rfl rfl (ao_mv (v := .int _ _) rfl) ?_
    refine al_opd rfl rfl rfl (ao_as (v := .bool _) rfl) ?_
    refine al_opd rfl rfl rfl (ao_as (v := .int _ _) rfl) ?_
    refine al_nilT ?_
    refine aw_ret ?_
    refine ends2 rfl (rv_tmp (v := .bool _) rfl) (rv_tmp (v := .int _ _) rfl) ?_
    exact ⟨by first | rfl | (simp [*]; (first | done | fail)), by (repeat (first | exact Same.refl _ _ | assumption | refine Same.push ?_ (by (first | exact Nat.le_refl _ | omega | (simp only [next_push, next_set, next_kill]; omega))) _ | refine Same.set ?_ (by (first | exact Nat.le_refl _ | omega | (simp only [next_push, next_set, next_kill]; omega))) _ | refine Same.kill ?_ (by (first | exact Nat.le_refl _ | omega | (simp only [next_push, next_set, next_kill]; omega)))))⟩
  · try simp only [decide_eq_true_eq, decide_eq_false_iff_not, Bool.not_eq_true', Bool.not_eq_false', Bool.and_eq_true, Bool.or_eq_true, Bool.and_eq_false_iff, Bool.or_eq_false_iff, beq_iff_eq, bne_iff_ne, beq_eq_false_iff_ne, bne_eq_false_iff_eq, ne_eq, Decidable.not_not, Bool.decide_eq_true] at h1_
    first | done | omega | (exfalso; revert h1_; simp; (first | done | omega))

-- impl.CheckCount
theorem implCheck0_c {L : Int} {v : Value} {ks : List Int} {hs : List Hold} {lb c : Nat} {y : Value} {sd : List Said} {H : AHeap} (ha0 : Sl H i16 1 v ks) (hk0 : H.blk lb = some (.cells (fl hold hs) 2)) (hcc : hs.length ≤ c) (hlen : ks.length ≤ 4194304) (hn : hs.length ≤ 4194304) (hL : -32768 ≤ L ∧ L ≤ 32767) (hw : holdOk hs) (hy0 : Sl H said 2 y sd) (hd : sd.length ≤ 4194304) (hv : ¬ (okRope L ks ∧ okHolds ks.length hs)) : ACd Try.prog 66 [.agg #[.int .i16 L, v], .slice (some ⟨lb, 0, none⟩) hs.length c, y] H (.tuple #[.bool false, .int .i64 1]) (H) := by
  have hh0 : Sl H hold 2 (.slice (some ⟨lb, 0, none⟩) hs.length c) hs := Sl.full hold_len hk0 rfl rfl rfl
  have hlt0 := AHeap.lt hk0
  refine ac_gc0 (fun β => VR.plainT β (by first | rfl | simp [plainT, plainV, plain1])) (ac_body Try.func66 rfl Try.ntmps66 rfl ?_)
  refine aw_seq ?_
  refine aw_region ?_
  refine al_opd rfl rfl rfl (ao_boxa (by rfl)) ?_
  refine al_opd rfl rfl rfl (ao_as (v := .bool _) rfl) ?_
  refine al_opd rfl rfl rfl (ao_as (v := .int _ _) rfl) ?_
  refine al_nilT ?_
  refine aw_seq ?_
  refine aw_region ?_
  refine al_opd rfl rfl rfl (ao_loada Try.isAgg37 Try.sizeOf37 rfl (by ((repeat (first | exact blk_push_new _ _ | assumption | apply blk_push_old | apply blk_set_same | refine (blk_set_ne (by first | assumption | omega | (simp only [next_push, next_set, next_kill, ne_eq]; omega))).trans ?_ | refine (blk_kill_ne (by first | assumption | omega | (simp only [next_push, next_set, next_kill, ne_eq]; omega))).trans ?_)); (first | done | fail))) (by rfl) (by first | rfl | (simp; (first | done | fail)))) ?_
  first | refine al_opd rfl rfl rfl (ao_mv (v := .slice _ _ _) rfl) ?_ | refine al_opd rfl rfl rfl (ao_mv (v := v) rfl) ?_ | refine al_opd rfl rfl rfl (ao_mv (v := y) rfl) ?_
  refine al_opd rfl rfl rfl (ao_calld (implCount0_c (L := L) (v := v) (ks := ks) (hs := hs) (ha0.mono (by (repeat (first | exact Same.refl _ _ | assumption | refine Same.push ?_ (by (first | exact Nat.le_refl _ | omega | (simp only [next_push, next_set, next_kill]; omega))) _ | refine Same.set ?_ (by (first | exact Nat.le_refl _ | omega | (simp only [next_push, next_set, next_kill]; omega))) _ | refine Same.kill ?_ (by (first | exact Nat.le_refl _ | omega | (simp only [next_push, next_set, next_kill]; omega))))))) (by ((repeat (first | exact blk_push_new _ _ | assumption | apply blk_push_old | apply blk_set_same | refine (blk_set_ne (by first | assumption | omega | (simp only [next_push, next_set, next_kill, ne_eq]; omega))).trans ?_ | refine (blk_kill_ne (by first | assumption | omega | (simp only [next_push, next_set, next_kill, ne_eq]; omega))).trans ?_)); (first | done | fail))) hcc hlen hn hL hw hv) Try.call62 rfl rfl) ?_
  refine al_opd rfl rfl rfl (ao_mv (v := .tuple _) rfl) ?_
  refine al_opd rfl rfl rfl (ao_extract (v := .slice _ _ _) rfl rfl) ?_
  refine al_opd rfl rfl rfl (ao_extract (v := .int _ _) rfl rfl) ?_
  first | refine al_opd rfl rfl rfl (ao_as (v := .slice _ _ _) rfl) ?_ | refine al_opd rfl rfl rfl (ao_as (v := v) rfl) ?_ | refine al_opd rfl rfl rfl (ao_as (v := y) rfl) ?_
  refine al_opd rfl rfl rfl (ao_as (v := .int _ _) rfl) ?_
  refine al_nilT ?_
  refine aw_seq ?_
  refine aw_region ?_
  refine al_opd rfl rfl rfl (ao_mv (v := .int _ _) rfl) ?_
  refine al_opd rfl rfl rfl (ao_eql rfl rfl) ?_
  refine al_opd rfl rfl rfl (ao_mv (v := .bool _) rfl) ?_
  refine al_cases (d := 18) rfl (fun h1_ => ?_) (fun h1_ => ?_)
  · try simp only [decide_eq_true_eq, decide_eq_false_iff_not, Bool.not_eq_true', Bool.not_eq_false', Bool.and_eq_true, Bool.or_eq_true, Bool.and_eq_false_iff, Bool.or_eq_false_iff, beq_iff_eq, bne_iff_ne, beq_eq_false_iff_ne, bne_eq_false_iff_eq, ne_eq, Decidable.not_not, Bool.decide_eq_true] at h1_
    first | done | omega | (exfalso; revert h1_; simp; (first | done | omega))
  · try simp only [decide_eq_true_eq, decide_eq_false_iff_not, Bool.not_eq_true', Bool.not_eq_false', Bool.and_eq_true, Bool.or_eq_true, Bool.and_eq_false_iff, Bool.or_eq_false_iff, beq_iff_eq, bne_iff_ne, beq_eq_false_iff_ne, bne_eq_false_iff_eq, ne_eq, Decidable.not_not, Bool.decide_eq_true] at h1_
    refine al_gno rfl rfl rfl rfl rfl ?_
    refine al_gno rfl rfl rfl rfl rfl ?_
    refine al_gno rfl rfl rfl rfl rfl ?_
    refine al_opd rfl rfl rfl (ao_pickF rfl (v := .bool _) rfl) ?_
    refine al_opd rfl rfl rfl (ao_mv (v := .int _ _) rfl) ?_
    refine al_opd rfl rfl rfl (ao_as (v := .bool _) rfl) ?_
    refine al_opd rfl rfl rfl (ao_as (v := .int _ _) rfl) ?_
    refine al_nilT ?_
    refine aw_ret ?_
    refine ends2 rfl (rv_tmp (v := .bool _) rfl) (rv_tmp (v := .int _ _) rfl) ?_
    exact ⟨by first | rfl | (simp [*]; (first | done | fail)), by (repeat (first | exact Same.refl _ _ | assumption | refine Same.push ?_ (by (first | exact Nat.le_refl _ | omega | (simp only [next_push, next_set, next_kill]; omega))) _ | refine Same.set ?_ (by (first | exact Nat.le_refl _ | omega | (simp only [next_push, next_set, next_kill]; omega))) _ | refine Same.kill ?_ (by (first | exact Nat.le_refl _ | omega | (simp only [next_push, next_set, next_kill]; omega)))))⟩

-- laws.FnExactCheckCount
theorem lawCheck1_c {L : Int} {v u : Value} {l : List Int} {hs : List Hold} {y : Value} {sd : List Said} {H : AHeap} (ha : Sl H i16 1 v l) (hh : Sl H hold 2 u hs) (hl : l.length ≤ 9223372036854775807) (hm : hs.length ≤ 9223372036854775807) (hL : -32768 ≤ L ∧ L ≤ 32767) (hw : holdOk hs) (hy : Sl H said 2 y sd) (hd : sd.length ≤ 9223372036854775807) (hv : okRope L l ∧ okHolds l.length hs) : ACd Try.prog 18 [.agg #[.int .i16 L, v], u, y] H (.bool true) (H) := by
  refine ac_gc0 (fun β => VR.plainT β (by first | rfl | simp [plainT, plainV, plain1])) (ac_body Try.func18 rfl Try.ntmps18 rfl ?_)
  refine aw_seq ?_
  refine aw_region ?_
  refine al_opd rfl rfl rfl (ao_boxa (by rfl)) ?_
  refine al_opd rfl rfl rfl (ao_as (v := .bool _) rfl) ?_
  refine al_nilT ?_
  refine aw_seq ?_
  refine aw_region ?_
  refine al_opd rfl rfl rfl (ao_as (v := .int _ _) rfl) ?_
  refine al_nilT ?_
  refine aw_seq ?_
  refine aw_region ?_
  refine al_opd rfl rfl rfl (ao_loada Try.isAgg34 Try.sizeOf34 rfl (by ((repeat (first | exact blk_push_new _ _ | assumption | apply blk_push_old | apply blk_set_same | refine (blk_set_ne (by first | assumption | omega | (simp only [next_push, next_set, next_kill, ne_eq]; omega))).trans ?_ | refine (blk_kill_ne (by first | assumption | omega | (simp only [next_push, next_set, next_kill, ne_eq]; omega))).trans ?_)); (first | done | fail))) (by rfl) (by first | rfl | (simp; (first | done | fail)))) ?_
  refine al_opd rfl rfl rfl (ao_mv (v := .int _ _) rfl) ?_
  refine al_opd rfl rfl rfl (ao_calld (szRope_c (L := L) (v := v) (l := l) (k := 1048576) (ha.mono (by (repeat (first | exact Same.refl _ _ | assumption | refine Same.push ?_ (by (first | exact Nat.le_refl _ | omega | (simp only [next_push, next_set, next_kill]; omega))) _ | refine Same.set ?_ (by (first | exact Nat.le_refl _ | omega | (simp only [next_push, next_set, next_kill]; omega))) _ | refine Same.kill ?_ (by (first | exact Nat.le_refl _ | omega | (simp only [next_push, next_set, next_kill]; omega))))))) hl (by omega)) Try.call26 rfl rfl) ?_
  refine al_opd rfl rfl rfl (ao_as (v := .int _ _) rfl) ?_
  refine al_nilT ?_
  refine aw_seq ?_
  refine aw_seq ?_
  refine aw_region ?_
  refine al_opd rfl rfl rfl (ao_mv (v := .int _ _) rfl) ?_
  refine al_opd rfl rfl rfl (ao_lss rfl rfl) ?_
  refine al_nilT ?_
  refine aw_cond rfl (fun h1_ => ?_) (fun h1_ => ?_)
  · try simp only [decide_eq_true_eq, decide_eq_false_iff_not, Bool.not_eq_true', Bool.not_eq_false', Bool.and_eq_true, Bool.or_eq_true, Bool.and_eq_false_iff, Bool.or_eq_false_iff, beq_iff_eq, bne_iff_ne, beq_eq_false_iff_ne, bne_eq_false_iff_eq, ne_eq, Decidable.not_not, Bool.decide_eq_true] at h1_
    refine aw_seq ?_
    refine aw_region ?_
    refine al_opd rfl rfl rfl (ao_as (v := .bool _) rfl) ?_
    refine al_nilT ?_
    refine aw_ret ?_
    refine thenA_r ?_
    refine ends1 rfl (rv_tmp (v := .bool _) rfl) ?_
    exact ⟨by first | rfl | (simp [*]; (first | done | fail)), by (repeat (first | exact Same.refl _ _ | assumption | refine Same.push ?_ (by (first | exact Nat.le_refl _ | omega | (simp only [next_push, next_set, next_kill]; omega))) _ | refine Same.set ?_ (by (first | exact Nat.le_refl _ | omega | (simp only [next_push, next_set, next_kill]; omega))) _ | refine Same.kill ?_ (by (first | exact Nat.le_refl _ | omega | (simp only [next_push, next_set, next_kill]; omega)))))⟩
  · try simp only [decide_eq_true_eq, decide_eq_false_iff_not, Bool.not_eq_true', Bool.not_eq_false', Bool.and_eq_true, Bool.or_eq_true, Bool.and_eq_false_iff, Bool.or_eq_false_iff, beq_iff_eq, bne_iff_ne, beq_eq_false_iff_ne, bne_eq_false_iff_eq, ne_eq, Decidable.not_not, Bool.decide_eq_true] at h1_
    have hl1 : l.length ≤ 1048576 := by omega
    refine aw_skipT ?_
    refine aw_seq ?_
    refine aw_region ?_
    first | refine al_opd rfl rfl rfl (ao_mv (v := .slice _ _ _) rfl) ?_ | refine al_opd rfl rfl rfl (ao_mv (v := v) rfl) ?_ | refine al_opd rfl rfl rfl (ao_mv (v := u) rfl) ?_ | refine al_opd rfl rfl rfl (ao_mv (v := y) rfl) ?_
    refine al_opd rfl rfl rfl (ao_mv (v := .int _ _) rfl) ?_
    refine al_opd rfl rfl rfl (ao_calld (szHoldS_c (v := u) (l := hs) (k := if 1048576 - (l.length : Int) < 0 then -1 else 1048576 - l.length) (hh.mono (by (repeat (first | exact Same.refl _ _ | assumption | refine Same.push ?_ (by (first | exact Nat.le_refl _ | omega | (simp only [next_push, next_set, next_kill]; omega))) _ | refine Same.set ?_ (by (first | exact Nat.le_refl _ | omega | (simp only [next_push, next_set, next_kill]; omega))) _ | refine Same.kill ?_ (by (first | exact Nat.le_refl _ | omega | (simp only [next_push, next_set, next_kill]; omega))))))) hm (by omega)) Try.call21 rfl rfl) ?_
    refine al_opd rfl rfl rfl (ao_as (v := .int _ _) rfl) ?_
    refine al_nilT ?_
    refine aw_seq ?_
    refine aw_seq ?_
    refine aw_region ?_
    refine al_opd rfl rfl rfl (ao_mv (v := .int _ _) rfl) ?_
    refine al_opd rfl rfl rfl (ao_lss rfl rfl) ?_
    refine al_nilT ?_
    refine aw_cond rfl (fun h2_ => ?_) (fun h2_ => ?_)
    · try simp only [decide_eq_true_eq, decide_eq_false_iff_not, Bool.not_eq_true', Bool.not_eq_false', Bool.and_eq_true, Bool.or_eq_true, Bool.and_eq_false_iff, Bool.or_eq_false_iff, beq_iff_eq, bne_iff_ne, beq_eq_false_iff_ne, bne_eq_false_iff_eq, ne_eq, Decidable.not_not, Bool.decide_eq_true] at h2_
      refine aw_seq ?_
      refine aw_region ?_
      refine al_opd rfl rfl rfl (ao_as (v := .bool _) rfl) ?_
      refine al_nilT ?_
      refine aw_ret ?_
      refine thenA_r ?_
      refine ends1 rfl (rv_tmp (v := .bool _) rfl) ?_
      exact ⟨by first | rfl | (simp [*]; (first | done | fail)), by (repeat (first | exact Same.refl _ _ | assumption | refine Same.push ?_ (by (first | exact Nat.le_refl _ | omega | (simp only [next_push, next_set, next_kill]; omega))) _ | refine Same.set ?_ (by (first | exact Nat.le_refl _ | omega | (simp only [next_push, next_set, next_kill]; omega))) _ | refine Same.kill ?_ (by (first | exact Nat.le_refl _ | omega | (simp only [next_push, next_set, next_kill]; omega)))))⟩
    · try simp only [decide_eq_true_eq, decide_eq_false_iff_not, Bool.not_eq_true', Bool.not_eq_false', Bool.and_eq_true, Bool.or_eq_true, Bool.and_eq_false_iff, Bool.or_eq_false_iff, beq_iff_eq, bne_iff_ne, beq_eq_false_iff_ne, bne_eq_false_iff_eq, ne_eq, Decidable.not_not, Bool.decide_eq_true] at h2_
      have hm1 : hs.length ≤ 1048576 := by omega
      refine aw_skipT ?_
      refine aw_seq ?_
      refine aw_region ?_
      first | refine al_opd rfl rfl rfl (ao_mv (v := .slice _ _ _) rfl) ?_ | refine al_opd rfl rfl rfl (ao_mv (v := v) rfl) ?_ | refine al_opd rfl rfl rfl (ao_mv (v := u) rfl) ?_ | refine al_opd rfl rfl rfl (ao_mv (v := y) rfl) ?_
      refine al_opd rfl rfl rfl (ao_mv (v := .int _ _) rfl) ?_
      refine al_opd rfl rfl rfl (ao_calld (szSaidS_c (v := y) (l := sd) (k := (if (if (1048576 : Int) - (l.length : Int) < 0 then (-1 : Int) else (1048576 : Int) - (l.length : Int)) - (hs.length : Int) < 0 then (-1 : Int) else (if (1048576 : Int) - (l.length : Int) < 0 then (-1 : Int) else (1048576 : Int) - (l.length : Int)) - (hs.length : Int))) (hy.mono (by (repeat (first | exact Same.refl _ _ | assumption | refine Same.push ?_ (by (first | exact Nat.le_refl _ | omega | (simp only [next_push, next_set, next_kill]; omega))) _ | refine Same.set ?_ (by (first | exact Nat.le_refl _ | omega | (simp only [next_push, next_set, next_kill]; omega))) _ | refine Same.kill ?_ (by (first | exact Nat.le_refl _ | omega | (simp only [next_push, next_set, next_kill]; omega))))))) hd (by omega)) Try.call56 rfl rfl) ?_
      refine al_opd rfl rfl rfl (ao_as (v := .int _ _) rfl) ?_
      refine al_nilT ?_
      refine aw_seq ?_
      refine aw_seq ?_
      refine aw_region ?_
      refine al_opd rfl rfl rfl (ao_mv (v := .int _ _) rfl) ?_
      refine al_opd rfl rfl rfl (ao_lss rfl rfl) ?_
      refine al_nilT ?_
      refine aw_cond rfl (fun h3_ => ?_) (fun h3_ => ?_)
      · try simp only [decide_eq_true_eq, decide_eq_false_iff_not, Bool.not_eq_true', Bool.not_eq_false', Bool.and_eq_true, Bool.or_eq_true, Bool.and_eq_false_iff, Bool.or_eq_false_iff, beq_iff_eq, bne_iff_ne, beq_eq_false_iff_ne, bne_eq_false_iff_eq, ne_eq, Decidable.not_not, Bool.decide_eq_true] at h3_
        refine aw_seq ?_
        refine aw_region ?_
        refine al_opd rfl rfl rfl (ao_as (v := .bool _) rfl) ?_
        refine al_nilT ?_
        refine aw_ret ?_
        refine thenA_r ?_
        refine ends1 rfl (rv_tmp (v := .bool _) rfl) ?_
        exact ⟨by first | rfl | (simp [*]; (first | done | fail)), by (repeat (first | exact Same.refl _ _ | assumption | refine Same.push ?_ (by (first | exact Nat.le_refl _ | omega | (simp only [next_push, next_set, next_kill]; omega))) _ | refine Same.set ?_ (by (first | exact Nat.le_refl _ | omega | (simp only [next_push, next_set, next_kill]; omega))) _ | refine Same.kill ?_ (by (first | exact Nat.le_refl _ | omega | (simp only [next_push, next_set, next_kill]; omega)))))⟩
      · try simp only [decide_eq_true_eq, decide_eq_false_iff_not, Bool.not_eq_true', Bool.not_eq_false', Bool.and_eq_true, Bool.or_eq_true, Bool.and_eq_false_iff, Bool.or_eq_false_iff, beq_iff_eq, bne_iff_ne, beq_eq_false_iff_ne, bne_eq_false_iff_eq, ne_eq, Decidable.not_not, Bool.decide_eq_true] at h3_
        have hd1 : sd.length ≤ 1048576 := by omega
        refine aw_skipT ?_
        refine aw_seq ?_
        refine aw_region ?_
        refine al_opd rfl rfl rfl (ao_loada Try.isAgg34 Try.sizeOf34 rfl (by ((repeat (first | exact blk_push_new _ _ | assumption | apply blk_push_old | apply blk_set_same | refine (blk_set_ne (by first | assumption | omega | (simp only [next_push, next_set, next_kill, ne_eq]; omega))).trans ?_ | refine (blk_kill_ne (by first | assumption | omega | (simp only [next_push, next_set, next_kill, ne_eq]; omega))).trans ?_)); (first | done | fail))) (by rfl) (by first | rfl | (simp; (first | done | fail)))) ?_
        refine al_opd rfl rfl rfl (ao_calld (toRope_c (L := L) (v := v) (l := l) (ha.mono (by (repeat (first | exact Same.refl _ _ | assumption | refine Same.push ?_ (by (first | exact Nat.le_refl _ | omega | (simp only [next_push, next_set, next_kill]; omega))) _ | refine Same.set ?_ (by (first | exact Nat.le_refl _ | omega | (simp only [next_push, next_set, next_kill]; omega))) _ | refine Same.kill ?_ (by (first | exact Nat.le_refl _ | omega | (simp only [next_push, next_set, next_kill]; omega))))))) (by omega)) Try.call28 rfl rfl) ?_
        first | refine al_opd rfl rfl rfl (ao_mv (v := .slice _ _ _) rfl) ?_ | refine al_opd rfl rfl rfl (ao_mv (v := v) rfl) ?_ | refine al_opd rfl rfl rfl (ao_mv (v := u) rfl) ?_ | refine al_opd rfl rfl rfl (ao_mv (v := y) rfl) ?_
        refine al_opd rfl rfl rfl (ao_calld (toHoldS_c (v := u) (l := hs) (hh.mono (by (repeat (first | exact Same.refl _ _ | assumption | refine Same.push ?_ (by (first | exact Nat.le_refl _ | omega | (simp only [next_push, next_set, next_kill]; omega))) _ | refine Same.set ?_ (by (first | exact Nat.le_refl _ | omega | (simp only [next_push, next_set, next_kill]; omega))) _ | refine Same.kill ?_ (by (first | exact Nat.le_refl _ | omega | (simp only [next_push, next_set, next_kill]; omega))))))) (by omega)) Try.call23 rfl rfl) ?_
        first | refine al_opd rfl rfl rfl (ao_mv (v := .slice _ _ _) rfl) ?_ | refine al_opd rfl rfl rfl (ao_mv (v := v) rfl) ?_ | refine al_opd rfl rfl rfl (ao_mv (v := u) rfl) ?_ | refine al_opd rfl rfl rfl (ao_mv (v := y) rfl) ?_
        refine al_opd rfl rfl rfl (ao_calld (toSaidS_c (v := y) (l := sd) (hy.mono (by (repeat (first | exact Same.refl _ _ | assumption | refine Same.push ?_ (by (first | exact Nat.le_refl _ | omega | (simp only [next_push, next_set, next_kill]; omega))) _ | refine Same.set ?_ (by (first | exact Nat.le_refl _ | omega | (simp only [next_push, next_set, next_kill]; omega))) _ | refine Same.kill ?_ (by (first | exact Nat.le_refl _ | omega | (simp only [next_push, next_set, next_kill]; omega))))))) (by omega)) Try.call58 rfl rfl) ?_
        refine al_opd rfl rfl rfl (ao_calld (specCheck1_c (L := L) (ks := l) (hs := hs) (sd := sd) (Sl.full i16_len (by ((repeat (first | exact blk_push_new _ _ | assumption | apply blk_push_old | apply blk_set_same | refine (blk_set_ne (by first | assumption | omega | (simp only [next_push, next_set, next_kill, ne_eq]; omega))).trans ?_ | refine (blk_kill_ne (by first | assumption | omega | (simp only [next_push, next_set, next_kill, ne_eq]; omega))).trans ?_)); (first | done | fail))) rfl rfl rfl) (by ((repeat (first | exact blk_push_new _ _ | assumption | apply blk_push_old | apply blk_set_same | refine (blk_set_ne (by first | assumption | omega | (simp only [next_push, next_set, next_kill, ne_eq]; omega))).trans ?_ | refine (blk_kill_ne (by first | assumption | omega | (simp only [next_push, next_set, next_kill, ne_eq]; omega))).trans ?_)); (first | done | fail))) (by omega) (by omega) (by omega) hL hw (Sl.full said_len (by ((repeat (first | exact blk_push_new _ _ | assumption | apply blk_push_old | apply blk_set_same | refine (blk_set_ne (by first | assumption | omega | (simp only [next_push, next_set, next_kill, ne_eq]; omega))).trans ?_ | refine (blk_kill_ne (by first | assumption | omega | (simp only [next_push, next_set, next_kill, ne_eq]; omega))).trans ?_)); (first | done | fail))) rfl rfl rfl) (by omega) hv) Try.call65 rfl rfl) ?_
        refine al_opd rfl rfl rfl (ao_mv (v := .tuple _) rfl) ?_
        refine al_opd rfl rfl rfl (ao_extract (v := .bool _) rfl rfl) ?_
        refine al_opd rfl rfl rfl (ao_extract (v := .int _ _) rfl rfl) ?_
        refine al_opd rfl rfl rfl (ao_as (v := .bool _) rfl) ?_
        refine al_opd rfl rfl rfl (ao_as (v := .int _ _) rfl) ?_
        refine al_nilT ?_
        refine aw_seq ?_
        refine aw_region ?_
        refine al_opd rfl rfl rfl (ao_loada Try.isAgg34 Try.sizeOf34 rfl (by ((repeat (first | exact blk_push_new _ _ | assumption | apply blk_push_old | apply blk_set_same | refine (blk_set_ne (by first | assumption | omega | (simp only [next_push, next_set, next_kill, ne_eq]; omega))).trans ?_ | refine (blk_kill_ne (by first | assumption | omega | (simp only [next_push, next_set, next_kill, ne_eq]; omega))).trans ?_)); (first | done | fail))) (by rfl) (by first | rfl | (simp; (first | done | fail)))) ?_
        refine al_opd rfl rfl rfl (ao_calld (toRope_c (L := L) (v := v) (l := l) (ha.mono (by (repeat (first | exact Same.refl _ _ | assumption | refine Same.push ?_ (by (first | exact Nat.le_refl _ | omega | (simp only [next_push, next_set, next_kill]; omega))) _ | refine Same.set ?_ (by (first | exact Nat.le_refl _ | omega | (simp only [next_push, next_set, next_kill]; omega))) _ | refine Same.kill ?_ (by (first | exact Nat.le_refl _ | omega | (simp only [next_push, next_set, next_kill]; omega))))))) (by omega)) Try.call28 rfl rfl) ?_
        refine al_opd rfl rfl rfl (ao_alloca (zv37) (by rfl)) ?_
        first | refine al_opd rfl rfl rfl ((ao_storeL Try.sizeOf37 (by rfl) (by rfl) (by ((repeat (first | exact blk_push_new _ _ | assumption | apply blk_push_old | apply blk_set_same | refine (blk_set_ne (by first | assumption | omega | (simp only [next_push, next_set, next_kill, ne_eq]; omega))).trans ?_ | refine (blk_kill_ne (by first | assumption | omega | (simp only [next_push, next_set, next_kill, ne_eq]; omega))).trans ?_)); (first | done | fail))) (by first | rfl | (simp; (first | done | fail))) (by first | rfl | (simp; (first | done | fail))) (by first | rfl | (simp; (first | done | fail)))).to (SetR.eq (by (repeat (first | exact SetR.new | exact SetR.same | (apply SetR.old; · exact ⟨_, by ((repeat (first | exact blk_push_new _ _ | assumption | apply blk_push_old | apply blk_set_same | refine (blk_set_ne (by first | assumption | omega | (simp only [next_push, next_set, next_kill, ne_eq]; omega))).trans ?_ | refine (blk_kill_ne (by first | assumption | omega | (simp only [next_push, next_set, next_kill, ne_eq]; omega))).trans ?_)); (first | done | fail))⟩) | exact SetR.base))))) ?_ | refine al_opd rfl rfl rfl ((ao_storeP (ds := [.int _ _, .slice _ _ _]) Try.sizeOf37 (by rfl) (by rfl) (by ((repeat (first | exact blk_push_new _ _ | assumption | apply blk_push_old | apply blk_set_same | refine (blk_set_ne (by first | assumption | omega | (simp only [next_push, next_set, next_kill, ne_eq]; omega))).trans ?_ | refine (blk_kill_ne (by first | assumption | omega | (simp only [next_push, next_set, next_kill, ne_eq]; omega))).trans ?_)); (first | done | fail))) (by first | rfl | (simp; (first | done | fail))) (by first | rfl | (simp; (first | done | fail))) (by first | decide | (simp; (first | done | fail)) | (simp; omega))).to (SetR.eq (by (repeat (first | exact SetR.new | exact SetR.same | (apply SetR.old; · exact ⟨_, by ((repeat (first | exact blk_push_new _ _ | assumption | apply blk_push_old | apply blk_set_same | refine (blk_set_ne (by first | assumption | omega | (simp only [next_push, next_set, next_kill, ne_eq]; omega))).trans ?_ | refine (blk_kill_ne (by first | assumption | omega | (simp only [next_push, next_set, next_kill, ne_eq]; omega))).trans ?_)); (first | done | fail))⟩) | exact SetR.base))))) ?_
        refine al_nilT ?_
        refine aw_seq ?_
        refine aw_region ?_
        first | refine al_opd rfl rfl rfl (ao_mv (v := .slice _ _ _) rfl) ?_ | refine al_opd rfl rfl rfl (ao_mv (v := v) rfl) ?_ | refine al_opd rfl rfl rfl (ao_mv (v := u) rfl) ?_ | refine al_opd rfl rfl rfl (ao_mv (v := y) rfl) ?_
        refine al_opd rfl rfl rfl (ao_calld (toHoldS_c (v := u) (l := hs) (hh.mono (by (repeat (first | exact Same.refl _ _ | assumption | refine Same.push ?_ (by (first | exact Nat.le_refl _ | omega | (simp only [next_push, next_set, next_kill]; omega))) _ | refine Same.set ?_ (by (first | exact Nat.le_refl _ | omega | (simp only [next_push, next_set, next_kill]; omega))) _ | refine Same.kill ?_ (by (first | exact Nat.le_refl _ | omega | (simp only [next_push, next_set, next_kill]; omega))))))) (by omega)) Try.call23 rfl rfl) ?_
        first | refine al_opd rfl rfl rfl (ao_as (v := .slice _ _ _) rfl) ?_ | refine al_opd rfl rfl rfl (ao_as (v := v) rfl) ?_ | refine al_opd rfl rfl rfl (ao_as (v := u) rfl) ?_ | refine al_opd rfl rfl rfl (ao_as (v := y) rfl) ?_
        refine al_nilT ?_
        refine aw_seq ?_
        refine aw_region ?_
        first | refine al_opd rfl rfl rfl (ao_mv (v := .slice _ _ _) rfl) ?_ | refine al_opd rfl rfl rfl (ao_mv (v := v) rfl) ?_ | refine al_opd rfl rfl rfl (ao_mv (v := u) rfl) ?_ | refine al_opd rfl rfl rfl (ao_mv (v := y) rfl) ?_
        refine al_opd rfl rfl rfl (ao_calld (toSaidS_c (v := y) (l := sd) (hy.mono (by (repeat (first | exact Same.refl _ _ | assumption | refine Same.push ?_ (by (first | exact Nat.le_refl _ | omega | (simp only [next_push, next_set, next_kill]; omega))) _ | refine Same.set ?_ (by (first | exact Nat.le_refl _ | omega | (simp only [next_push, next_set, next_kill]; omega))) _ | refine Same.kill ?_ (by (first | exact Nat.le_refl _ | omega | (simp only [next_push, next_set, next_kill]; omega))))))) (by omega)) Try.call58 rfl rfl) ?_
        first | refine al_opd rfl rfl rfl (ao_as (v := .slice _ _ _) rfl) ?_ | refine al_opd rfl rfl rfl (ao_as (v := v) rfl) ?_ | refine al_opd rfl rfl rfl (ao_as (v := u) rfl) ?_ | refine al_opd rfl rfl rfl (ao_as (v := y) rfl) ?_
        refine al_nilT ?_
        refine aw_seq ?_
        refine aw_region ?_
        refine al_opd rfl rfl rfl (ao_loada Try.isAgg37 Try.sizeOf37 rfl (by ((repeat (first | exact blk_push_new _ _ | assumption | apply blk_push_old | apply blk_set_same | refine (blk_set_ne (by first | assumption | omega | (simp only [next_push, next_set, next_kill, ne_eq]; omega))).trans ?_ | refine (blk_kill_ne (by first | assumption | omega | (simp only [next_push, next_set, next_kill, ne_eq]; omega))).trans ?_)); (first | done | fail))) (by rfl) (by first | rfl | (simp; (first | done | fail)))) ?_
        first | refine al_opd rfl rfl rfl (ao_mv (v := .slice _ _ _) rfl) ?_ | refine al_opd rfl rfl rfl (ao_mv (v := v) rfl) ?_ | refine al_opd rfl rfl rfl (ao_mv (v := u) rfl) ?_ | refine al_opd rfl rfl rfl (ao_mv (v := y) rfl) ?_
        first | refine al_opd rfl rfl rfl (ao_mv (v := .slice _ _ _) rfl) ?_ | refine al_opd rfl rfl rfl (ao_mv (v := v) rfl) ?_ | refine al_opd rfl rfl rfl (ao_mv (v := u) rfl) ?_ | refine al_opd rfl rfl rfl (ao_mv (v := y) rfl) ?_
        refine al_opd rfl rfl rfl (ao_calld (implCheck1_c (L := L) (ks := l) (hs := hs) (sd := sd) (Sl.full i16_len (by ((repeat (first | exact blk_push_new _ _ | assumption | apply blk_push_old | apply blk_set_same | refine (blk_set_ne (by first | assumption | omega | (simp only [next_push, next_set, next_kill, ne_eq]; omega))).trans ?_ | refine (blk_kill_ne (by first | assumption | omega | (simp only [next_push, next_set, next_kill, ne_eq]; omega))).trans ?_)); (first | done | fail))) rfl rfl rfl) (by ((repeat (first | exact blk_push_new _ _ | assumption | apply blk_push_old | apply blk_set_same | refine (blk_set_ne (by first | assumption | omega | (simp only [next_push, next_set, next_kill, ne_eq]; omega))).trans ?_ | refine (blk_kill_ne (by first | assumption | omega | (simp only [next_push, next_set, next_kill, ne_eq]; omega))).trans ?_)); (first | done | fail))) (by omega) (by omega) (by omega) hL hw (Sl.full said_len (by ((repeat (first | exact blk_push_new _ _ | assumption | apply blk_push_old | apply blk_set_same | refine (blk_set_ne (by first | assumption | omega | (simp only [next_push, next_set, next_kill, ne_eq]; omega))).trans ?_ | refine (blk_kill_ne (by first | assumption | omega | (simp only [next_push, next_set, next_kill, ne_eq]; omega))).trans ?_)); (first | done | fail))) rfl rfl rfl) (by omega) hv) Try.call66 rfl rfl) ?_
        refine al_opd rfl rfl rfl (ao_mv (v := .tuple _) rfl) ?_
        refine al_opd rfl rfl rfl (ao_extract (v := .bool _) rfl rfl) ?_
        refine al_opd rfl rfl rfl (ao_extract (v := .int _ _) rfl rfl) ?_
        refine al_opd rfl rfl rfl (ao_as (v := .bool _) rfl) ?_
        refine al_opd rfl rfl rfl (ao_as (v := .int _ _) rfl) ?_
        refine al_nilT ?_
        refine aw_seq ?_
        refine aw_seq ?_
        refine aw_region ?_
        refine al_opd rfl rfl rfl (ao_mv (v := .bool _) rfl) ?_
        refine al_opd rfl rfl rfl (ao_mv (v := .bool _) rfl) ?_
        refine al_opd rfl rfl rfl (ao_neB Try.underlying4 rfl rfl) ?_
        refine al_opd rfl rfl rfl (ao_mv (v := .bool _) rfl) ?_
        refine al_cases (d := 56) rfl (fun h4_ => ?_) (fun h4_ => ?_)
        · try simp only [decide_eq_true_eq, decide_eq_false_iff_not, Bool.not_eq_true', Bool.not_eq_false', Bool.and_eq_true, Bool.or_eq_true, Bool.and_eq_false_iff, Bool.or_eq_false_iff, beq_iff_eq, bne_iff_ne, beq_eq_false_iff_ne, bne_eq_false_iff_eq, ne_eq, Decidable.not_not, Bool.decide_eq_true] at h4_
          first | done | omega | (exfalso; revert h4_; simp; (first | done | omega))
        · try simp only [decide_eq_true_eq, decide_eq_false_iff_not, Bool.not_eq_true', Bool.not_eq_false', Bool.and_eq_true, Bool.or_eq_true, Bool.and_eq_false_iff, Bool.or_eq_false_iff, beq_iff_eq, bne_iff_ne, beq_eq_false_iff_ne, bne_eq_false_iff_eq, ne_eq, Decidable.not_not, Bool.decide_eq_true] at h4_
          refine al_gyes rfl rfl rfl rfl rfl (ao_mv (v := .int _ _) rfl) ?_
          refine al_gyes rfl rfl rfl rfl rfl (ao_mv (v := .int _ _) rfl) ?_
          refine al_gyes rfl rfl rfl rfl rfl (ao_neq rfl rfl) ?_
          refine al_opd rfl rfl rfl (ao_pickF rfl (v := .bool _) rfl) ?_
          refine al_nilT ?_
          refine aw_cond rfl (fun h5_ => ?_) (fun h5_ => ?_)
          · try simp only [decide_eq_true_eq, decide_eq_false_iff_not, Bool.not_eq_true', Bool.not_eq_false', Bool.and_eq_true, Bool.or_eq_true, Bool.and_eq_false_iff, Bool.or_eq_false_iff, beq_iff_eq, bne_iff_ne, beq_eq_false_iff_ne, bne_eq_false_iff_eq, ne_eq, Decidable.not_not, Bool.decide_eq_true] at h5_
            first | done | omega | (exfalso; revert h5_; simp; (first | done | omega))
          · try simp only [decide_eq_true_eq, decide_eq_false_iff_not, Bool.not_eq_true', Bool.not_eq_false', Bool.and_eq_true, Bool.or_eq_true, Bool.and_eq_false_iff, Bool.or_eq_false_iff, beq_iff_eq, bne_iff_ne, beq_eq_false_iff_ne, bne_eq_false_iff_eq, ne_eq, Decidable.not_not, Bool.decide_eq_true] at h5_
            refine aw_skipT ?_
            refine aw_seq ?_
            refine aw_seq ?_
            refine aw_draw (m := 5) mo (by kernel_rfl) rfl ?_
            refine dw_opd rfl rfl rfl (ao_loada Try.isAgg37 Try.sizeOf37 rfl (by ((repeat (first | exact blk_push_new _ _ | assumption | apply blk_push_old | apply blk_set_same | refine (blk_set_ne (by first | assumption | omega | (simp only [next_push, next_set, next_kill, ne_eq]; omega))).trans ?_ | refine (blk_kill_ne (by first | assumption | omega | (simp only [next_push, next_set, next_kill, ne_eq]; omega))).trans ?_)); (first | done | fail))) (by rfl) (by first | rfl | (simp; (first | done | fail)))) ?_
            refine dw_opd rfl rfl rfl (ao_loada Try.isAgg34 Try.sizeOf34 rfl (by ((repeat (first | exact blk_push_new _ _ | assumption | apply blk_push_old | apply blk_set_same | refine (blk_set_ne (by first | assumption | omega | (simp only [next_push, next_set, next_kill, ne_eq]; omega))).trans ?_ | refine (blk_kill_ne (by first | assumption | omega | (simp only [next_push, next_set, next_kill, ne_eq]; omega))).trans ?_)); (first | done | fail))) (by rfl) (by first | rfl | (simp; (first | done | fail)))) ?_
            refine dw_opn rfl rfl rfl (ao_calld (toRope_c (L := L) (v := v) (l := l) (ha.mono (by (repeat (first | exact Same.refl _ _ | assumption | refine Same.push ?_ (by (first | exact Nat.le_refl _ | omega | (simp only [next_push, next_set, next_kill]; omega))) _ | refine Same.set ?_ (by (first | exact Nat.le_refl _ | omega | (simp only [next_push, next_set, next_kill]; omega))) _ | refine Same.kill ?_ (by (first | exact Nat.le_refl _ | omega | (simp only [next_push, next_set, next_kill]; omega))))))) (by omega)) Try.call28 rfl rfl) ?_
            refine dw_opd rfl rfl rfl (ao_calld (eqRope_c (L := L) (M := L) (l := l) (m := l) (Sl.full i16_len (by ((repeat (first | exact blk_push_new _ _ | assumption | apply blk_push_old | apply blk_set_same | refine (blk_set_ne (by first | assumption | omega | (simp only [next_push, next_set, next_kill, ne_eq]; omega))).trans ?_ | refine (blk_kill_ne (by first | assumption | omega | (simp only [next_push, next_set, next_kill, ne_eq]; omega))).trans ?_)); (first | done | fail))) rfl rfl rfl) (Sl.full i16_len (by ((repeat (first | exact blk_push_new _ _ | assumption | apply blk_push_old | apply blk_set_same | refine (blk_set_ne (by first | assumption | omega | (simp only [next_push, next_set, next_kill, ne_eq]; omega))).trans ?_ | refine (blk_kill_ne (by first | assumption | omega | (simp only [next_push, next_set, next_kill, ne_eq]; omega))).trans ?_)); (first | done | fail))) rfl rfl rfl) (by omega)) Try.call30 rfl rfl) ?_
            refine dw_opd rfl rfl rfl (ao_not rfl) ?_
            refine dw_end ?_
            refine al_nilT ?_
            refine aw_cond rfl (fun h6_ => ?_) (fun h6_ => ?_)
            · try simp only [decide_eq_true_eq, decide_eq_false_iff_not, Bool.not_eq_true', Bool.not_eq_false', Bool.and_eq_true, Bool.or_eq_true, Bool.and_eq_false_iff, Bool.or_eq_false_iff, beq_iff_eq, bne_iff_ne, beq_eq_false_iff_ne, bne_eq_false_iff_eq, ne_eq, Decidable.not_not, Bool.decide_eq_true] at h6_
              first | done | omega | (exfalso; revert h6_; simp; (first | done | omega))
            · try simp only [decide_eq_true_eq, decide_eq_false_iff_not, Bool.not_eq_true', Bool.not_eq_false', Bool.and_eq_true, Bool.or_eq_true, Bool.and_eq_false_iff, Bool.or_eq_false_iff, beq_iff_eq, bne_iff_ne, beq_eq_false_iff_ne, bne_eq_false_iff_eq, ne_eq, Decidable.not_not, Bool.decide_eq_true] at h6_
              refine aw_skipT ?_
              refine aw_seq ?_
              refine aw_seq ?_
              refine aw_region ?_
              first | refine al_opd rfl rfl rfl (ao_mv (v := .slice _ _ _) rfl) ?_ | refine al_opd rfl rfl rfl (ao_mv (v := v) rfl) ?_ | refine al_opd rfl rfl rfl (ao_mv (v := u) rfl) ?_ | refine al_opd rfl rfl rfl (ao_mv (v := y) rfl) ?_
              first | refine al_opd rfl rfl rfl (ao_mv (v := .slice _ _ _) rfl) ?_ | refine al_opd rfl rfl rfl (ao_mv (v := v) rfl) ?_ | refine al_opd rfl rfl rfl (ao_mv (v := u) rfl) ?_ | refine al_opd rfl rfl rfl (ao_mv (v := y) rfl) ?_
              refine al_opd rfl rfl rfl (ao_calld (toHoldS_c (v := u) (l := hs) (hh.mono (by (repeat (first | exact Same.refl _ _ | assumption | refine Same.push ?_ (by (first | exact Nat.le_refl _ | omega | (simp only [next_push, next_set, next_kill]; omega))) _ | refine Same.set ?_ (by (first | exact Nat.le_refl _ | omega | (simp only [next_push, next_set, next_kill]; omega))) _ | refine Same.kill ?_ (by (first | exact Nat.le_refl _ | omega | (simp only [next_push, next_set, next_kill]; omega))))))) (by omega)) Try.call23 rfl rfl) ?_
              refine al_opd rfl rfl rfl (ao_calld (eqHoldS_c (l := hs) (m := hs) (Sl.full hold_len (by ((repeat (first | exact blk_push_new _ _ | assumption | apply blk_push_old | apply blk_set_same | refine (blk_set_ne (by first | assumption | omega | (simp only [next_push, next_set, next_kill, ne_eq]; omega))).trans ?_ | refine (blk_kill_ne (by first | assumption | omega | (simp only [next_push, next_set, next_kill, ne_eq]; omega))).trans ?_)); (first | done | fail))) rfl rfl rfl) (Sl.full hold_len (by ((repeat (first | exact blk_push_new _ _ | assumption | apply blk_push_old | apply blk_set_same | refine (blk_set_ne (by first | assumption | omega | (simp only [next_push, next_set, next_kill, ne_eq]; omega))).trans ?_ | refine (blk_kill_ne (by first | assumption | omega | (simp only [next_push, next_set, next_kill, ne_eq]; omega))).trans ?_)); (first | done | fail))) rfl rfl rfl) (by omega)) Try.call25 rfl rfl) ?_
              refine al_opd rfl rfl rfl (ao_not rfl) ?_
              refine al_nilT ?_
              refine aw_cond rfl (fun h7_ => ?_) (fun h7_ => ?_)
              · try simp only [decide_eq_true_eq, decide_eq_false_iff_not, Bool.not_eq_true', Bool.not_eq_false', Bool.and_eq_true, Bool.or_eq_true, Bool.and_eq_false_iff, Bool.or_eq_false_iff, beq_iff_eq, bne_iff_ne, beq_eq_false_iff_ne, bne_eq_false_iff_eq, ne_eq, Decidable.not_not, Bool.decide_eq_true] at h7_
                first | done | omega | (exfalso; revert h7_; simp; (first | done | omega))
              · try simp only [decide_eq_true_eq, decide_eq_false_iff_not, Bool.not_eq_true', Bool.not_eq_false', Bool.and_eq_true, Bool.or_eq_true, Bool.and_eq_false_iff, Bool.or_eq_false_iff, beq_iff_eq, bne_iff_ne, beq_eq_false_iff_ne, bne_eq_false_iff_eq, ne_eq, Decidable.not_not, Bool.decide_eq_true] at h7_
                refine aw_skipT ?_
                refine aw_seq ?_
                refine aw_seq ?_
                refine aw_region ?_
                first | refine al_opd rfl rfl rfl (ao_mv (v := .slice _ _ _) rfl) ?_ | refine al_opd rfl rfl rfl (ao_mv (v := v) rfl) ?_ | refine al_opd rfl rfl rfl (ao_mv (v := u) rfl) ?_ | refine al_opd rfl rfl rfl (ao_mv (v := y) rfl) ?_
                first | refine al_opd rfl rfl rfl (ao_mv (v := .slice _ _ _) rfl) ?_ | refine al_opd rfl rfl rfl (ao_mv (v := v) rfl) ?_ | refine al_opd rfl rfl rfl (ao_mv (v := u) rfl) ?_ | refine al_opd rfl rfl rfl (ao_mv (v := y) rfl) ?_
                refine al_opd rfl rfl rfl (ao_calld (toSaidS_c (v := y) (l := sd) (hy.mono (by (repeat (first | exact Same.refl _ _ | assumption | refine Same.push ?_ (by (first | exact Nat.le_refl _ | omega | (simp only [next_push, next_set, next_kill]; omega))) _ | refine Same.set ?_ (by (first | exact Nat.le_refl _ | omega | (simp only [next_push, next_set, next_kill]; omega))) _ | refine Same.kill ?_ (by (first | exact Nat.le_refl _ | omega | (simp only [next_push, next_set, next_kill]; omega))))))) (by omega)) Try.call58 rfl rfl) ?_
                refine al_opd rfl rfl rfl (ao_calld (eqSaidS_c (l := sd) (m := sd) (Sl.full said_len (by ((repeat (first | exact blk_push_new _ _ | assumption | apply blk_push_old | apply blk_set_same | refine (blk_set_ne (by first | assumption | omega | (simp only [next_push, next_set, next_kill, ne_eq]; omega))).trans ?_ | refine (blk_kill_ne (by first | assumption | omega | (simp only [next_push, next_set, next_kill, ne_eq]; omega))).trans ?_)); (first | done | fail))) rfl rfl rfl) (Sl.full said_len (by ((repeat (first | exact blk_push_new _ _ | assumption | apply blk_push_old | apply blk_set_same | refine (blk_set_ne (by first | assumption | omega | (simp only [next_push, next_set, next_kill, ne_eq]; omega))).trans ?_ | refine (blk_kill_ne (by first | assumption | omega | (simp only [next_push, next_set, next_kill, ne_eq]; omega))).trans ?_)); (first | done | fail))) rfl rfl rfl) (by omega)) Try.call60 rfl rfl) ?_
                refine al_opd rfl rfl rfl (ao_not rfl) ?_
                refine al_nilT ?_
                refine aw_cond rfl (fun h8_ => ?_) (fun h8_ => ?_)
                · try simp only [decide_eq_true_eq, decide_eq_false_iff_not, Bool.not_eq_true', Bool.not_eq_false', Bool.and_eq_true, Bool.or_eq_true, Bool.and_eq_false_iff, Bool.or_eq_false_iff, beq_iff_eq, bne_iff_ne, beq_eq_false_iff_ne, bne_eq_false_iff_eq, ne_eq, Decidable.not_not, Bool.decide_eq_true] at h8_
                  first | done | omega | (exfalso; revert h8_; simp; (first | done | omega))
                · try simp only [decide_eq_true_eq, decide_eq_false_iff_not, Bool.not_eq_true', Bool.not_eq_false', Bool.and_eq_true, Bool.or_eq_true, Bool.and_eq_false_iff, Bool.or_eq_false_iff, beq_iff_eq, bne_iff_ne, beq_eq_false_iff_ne, bne_eq_false_iff_eq, ne_eq, Decidable.not_not, Bool.decide_eq_true] at h8_
                  refine aw_skipT ?_
                  refine aw_seq ?_
                  refine aw_region ?_
                  refine al_opd rfl rfl rfl (ao_as (v := .bool _) rfl) ?_
                  refine al_nilT ?_
                  refine aw_ret ?_
                  refine ends1 rfl (rv_tmp (v := .bool _) rfl) ?_
                  exact ⟨by first | rfl | (simp [*]; (first | done | fail)), by (repeat (first | exact Same.refl _ _ | assumption | refine Same.push ?_ (by (first | exact Nat.le_refl _ | omega | (simp only [next_push, next_set, next_kill]; omega))) _ | refine Same.set ?_ (by (first | exact Nat.le_refl _ | omega | (simp only [next_push, next_set, next_kill]; omega))) _ | refine Same.kill ?_ (by (first | exact Nat.le_refl _ | omega | (simp only [next_push, next_set, next_kill]; omega)))))⟩

-- laws.FnExactCheckCount
theorem lawCheck0_c {L : Int} {v u : Value} {l : List Int} {hs : List Hold} {y : Value} {sd : List Said} {H : AHeap} (ha : Sl H i16 1 v l) (hh : Sl H hold 2 u hs) (hl : l.length ≤ 9223372036854775807) (hm : hs.length ≤ 9223372036854775807) (hL : -32768 ≤ L ∧ L ≤ 32767) (hw : holdOk hs) (hy : Sl H said 2 y sd) (hd : sd.length ≤ 9223372036854775807) (hv : ¬ (okRope L l ∧ okHolds l.length hs)) : ACd Try.prog 18 [.agg #[.int .i16 L, v], u, y] H (.bool true) (H) := by
  refine ac_gc0 (fun β => VR.plainT β (by first | rfl | simp [plainT, plainV, plain1])) (ac_body Try.func18 rfl Try.ntmps18 rfl ?_)
  refine aw_seq ?_
  refine aw_region ?_
  refine al_opd rfl rfl rfl (ao_boxa (by rfl)) ?_
  refine al_opd rfl rfl rfl (ao_as (v := .bool _) rfl) ?_
  refine al_nilT ?_
  refine aw_seq ?_
  refine aw_region ?_
  refine al_opd rfl rfl rfl (ao_as (v := .int _ _) rfl) ?_
  refine al_nilT ?_
  refine aw_seq ?_
  refine aw_region ?_
  refine al_opd rfl rfl rfl (ao_loada Try.isAgg34 Try.sizeOf34 rfl (by ((repeat (first | exact blk_push_new _ _ | assumption | apply blk_push_old | apply blk_set_same | refine (blk_set_ne (by first | assumption | omega | (simp only [next_push, next_set, next_kill, ne_eq]; omega))).trans ?_ | refine (blk_kill_ne (by first | assumption | omega | (simp only [next_push, next_set, next_kill, ne_eq]; omega))).trans ?_)); (first | done | fail))) (by rfl) (by first | rfl | (simp; (first | done | fail)))) ?_
  refine al_opd rfl rfl rfl (ao_mv (v := .int _ _) rfl) ?_
  refine al_opd rfl rfl rfl (ao_calld (szRope_c (L := L) (v := v) (l := l) (k := 1048576) (ha.mono (by (repeat (first | exact Same.refl _ _ | assumption | refine Same.push ?_ (by (first | exact Nat.le_refl _ | omega | (simp only [next_push, next_set, next_kill]; omega))) _ | refine Same.set ?_ (by (first | exact Nat.le_refl _ | omega | (simp only [next_push, next_set, next_kill]; omega))) _ | refine Same.kill ?_ (by (first | exact Nat.le_refl _ | omega | (simp only [next_push, next_set, next_kill]; omega))))))) hl (by omega)) Try.call26 rfl rfl) ?_
  refine al_opd rfl rfl rfl (ao_as (v := .int _ _) rfl) ?_
  refine al_nilT ?_
  refine aw_seq ?_
  refine aw_seq ?_
  refine aw_region ?_
  refine al_opd rfl rfl rfl (ao_mv (v := .int _ _) rfl) ?_
  refine al_opd rfl rfl rfl (ao_lss rfl rfl) ?_
  refine al_nilT ?_
  refine aw_cond rfl (fun h1_ => ?_) (fun h1_ => ?_)
  · try simp only [decide_eq_true_eq, decide_eq_false_iff_not, Bool.not_eq_true', Bool.not_eq_false', Bool.and_eq_true, Bool.or_eq_true, Bool.and_eq_false_iff, Bool.or_eq_false_iff, beq_iff_eq, bne_iff_ne, beq_eq_false_iff_ne, bne_eq_false_iff_eq, ne_eq, Decidable.not_not, Bool.decide_eq_true] at h1_
    refine aw_seq ?_
    refine aw_region ?_
    refine al_opd rfl rfl rfl (ao_as (v := .bool _) rfl) ?_
    refine al_nilT ?_
    refine aw_ret ?_
    refine thenA_r ?_
    refine ends1 rfl (rv_tmp (v := .bool _) rfl) ?_
    exact ⟨by first | rfl | (simp [*]; (first | done | fail)), by (repeat (first | exact Same.refl _ _ | assumption | refine Same.push ?_ (by (first | exact Nat.le_refl _ | omega | (simp only [next_push, next_set, next_kill]; omega))) _ | refine Same.set ?_ (by (first | exact Nat.le_refl _ | omega | (simp only [next_push, next_set, next_kill]; omega))) _ | refine Same.kill ?_ (by (first | exact Nat.le_refl _ | omega | (simp only [next_push, next_set, next_kill]; omega)))))⟩
  · try simp only [decide_eq_true_eq, decide_eq_false_iff_not, Bool.not_eq_true', Bool.not_eq_false', Bool.and_eq_true, Bool.or_eq_true, Bool.and_eq_false_iff, Bool.or_eq_false_iff, beq_iff_eq, bne_iff_ne, beq_eq_false_iff_ne, bne_eq_false_iff_eq, ne_eq, Decidable.not_not, Bool.decide_eq_true] at h1_
    have hl1 : l.length ≤ 1048576 := by omega
    refine aw_skipT ?_
    refine aw_seq ?_
    refine aw_region ?_
    first | refine al_opd rfl rfl rfl (ao_mv (v := .slice _ _ _) rfl) ?_ | refine al_opd rfl rfl rfl (ao_mv (v := v) rfl) ?_ | refine al_opd rfl rfl rfl (ao_mv (v := u) rfl) ?_ | refine al_opd rfl rfl rfl (ao_mv (v := y) rfl) ?_
    refine al_opd rfl rfl rfl (ao_mv (v := .int _ _) rfl) ?_
    refine al_opd rfl rfl rfl (ao_calld (szHoldS_c (v := u) (l := hs) (k := if 1048576 - (l.length : Int) < 0 then -1 else 1048576 - l.length) (hh.mono (by (repeat (first | exact Same.refl _ _ | assumption | refine Same.push ?_ (by (first | exact Nat.le_refl _ | omega | (simp only [next_push, next_set, next_kill]; omega))) _ | refine Same.set ?_ (by (first | exact Nat.le_refl _ | omega | (simp only [next_push, next_set, next_kill]; omega))) _ | refine Same.kill ?_ (by (first | exact Nat.le_refl _ | omega | (simp only [next_push, next_set, next_kill]; omega))))))) hm (by omega)) Try.call21 rfl rfl) ?_
    refine al_opd rfl rfl rfl (ao_as (v := .int _ _) rfl) ?_
    refine al_nilT ?_
    refine aw_seq ?_
    refine aw_seq ?_
    refine aw_region ?_
    refine al_opd rfl rfl rfl (ao_mv (v := .int _ _) rfl) ?_
    refine al_opd rfl rfl rfl (ao_lss rfl rfl) ?_
    refine al_nilT ?_
    refine aw_cond rfl (fun h2_ => ?_) (fun h2_ => ?_)
    · try simp only [decide_eq_true_eq, decide_eq_false_iff_not, Bool.not_eq_true', Bool.not_eq_false', Bool.and_eq_true, Bool.or_eq_true, Bool.and_eq_false_iff, Bool.or_eq_false_iff, beq_iff_eq, bne_iff_ne, beq_eq_false_iff_ne, bne_eq_false_iff_eq, ne_eq, Decidable.not_not, Bool.decide_eq_true] at h2_
      refine aw_seq ?_
      refine aw_region ?_
      refine al_opd rfl rfl rfl (ao_as (v := .bool _) rfl) ?_
      refine al_nilT ?_
      refine aw_ret ?_
      refine thenA_r ?_
      refine ends1 rfl (rv_tmp (v := .bool _) rfl) ?_
      exact ⟨by first | rfl | (simp [*]; (first | done | fail)), by (repeat (first | exact Same.refl _ _ | assumption | refine Same.push ?_ (by (first | exact Nat.le_refl _ | omega | (simp only [next_push, next_set, next_kill]; omega))) _ | refine Same.set ?_ (by (first | exact Nat.le_refl _ | omega | (simp only [next_push, next_set, next_kill]; omega))) _ | refine Same.kill ?_ (by (first | exact Nat.le_refl _ | omega | (simp only [next_push, next_set, next_kill]; omega)))))⟩
    · try simp only [decide_eq_true_eq, decide_eq_false_iff_not, Bool.not_eq_true', Bool.not_eq_false', Bool.and_eq_true, Bool.or_eq_true, Bool.and_eq_false_iff, Bool.or_eq_false_iff, beq_iff_eq, bne_iff_ne, beq_eq_false_iff_ne, bne_eq_false_iff_eq, ne_eq, Decidable.not_not, Bool.decide_eq_true] at h2_
      have hm1 : hs.length ≤ 1048576 := by omega
      refine aw_skipT ?_
      refine aw_seq ?_
      refine aw_region ?_
      first | refine al_opd rfl rfl rfl (ao_mv (v := .slice _ _ _) rfl) ?_ | refine al_opd rfl rfl rfl (ao_mv (v := v) rfl) ?_ | refine al_opd rfl rfl rfl (ao_mv (v := u) rfl) ?_ | refine al_opd rfl rfl rfl (ao_mv (v := y) rfl) ?_
      refine al_opd rfl rfl rfl (ao_mv (v := .int _ _) rfl) ?_
      refine al_opd rfl rfl rfl (ao_calld (szSaidS_c (v := y) (l := sd) (k := (if (if (1048576 : Int) - (l.length : Int) < 0 then (-1 : Int) else (1048576 : Int) - (l.length : Int)) - (hs.length : Int) < 0 then (-1 : Int) else (if (1048576 : Int) - (l.length : Int) < 0 then (-1 : Int) else (1048576 : Int) - (l.length : Int)) - (hs.length : Int))) (hy.mono (by (repeat (first | exact Same.refl _ _ | assumption | refine Same.push ?_ (by (first | exact Nat.le_refl _ | omega | (simp only [next_push, next_set, next_kill]; omega))) _ | refine Same.set ?_ (by (first | exact Nat.le_refl _ | omega | (simp only [next_push, next_set, next_kill]; omega))) _ | refine Same.kill ?_ (by (first | exact Nat.le_refl _ | omega | (simp only [next_push, next_set, next_kill]; omega))))))) hd (by omega)) Try.call56 rfl rfl) ?_
      refine al_opd rfl rfl rfl (ao_as (v := .int _ _) rfl) ?_
      refine al_nilT ?_
      refine aw_seq ?_
      refine aw_seq ?_
      refine aw_region ?_
      refine al_opd rfl rfl rfl (ao_mv (v := .int _ _) rfl) ?_
      refine al_opd rfl rfl rfl (ao_lss rfl rfl) ?_
      refine al_nilT ?_
      refine aw_cond rfl (fun h3_ => ?_) (fun h3_ => ?_)
      · try simp only [decide_eq_true_eq, decide_eq_false_iff_not, Bool.not_eq_true', Bool.not_eq_false', Bool.and_eq_true, Bool.or_eq_true, Bool.and_eq_false_iff, Bool.or_eq_false_iff, beq_iff_eq, bne_iff_ne, beq_eq_false_iff_ne, bne_eq_false_iff_eq, ne_eq, Decidable.not_not, Bool.decide_eq_true] at h3_
        refine aw_seq ?_
        refine aw_region ?_
        refine al_opd rfl rfl rfl (ao_as (v := .bool _) rfl) ?_
        refine al_nilT ?_
        refine aw_ret ?_
        refine thenA_r ?_
        refine ends1 rfl (rv_tmp (v := .bool _) rfl) ?_
        exact ⟨by first | rfl | (simp [*]; (first | done | fail)), by (repeat (first | exact Same.refl _ _ | assumption | refine Same.push ?_ (by (first | exact Nat.le_refl _ | omega | (simp only [next_push, next_set, next_kill]; omega))) _ | refine Same.set ?_ (by (first | exact Nat.le_refl _ | omega | (simp only [next_push, next_set, next_kill]; omega))) _ | refine Same.kill ?_ (by (first | exact Nat.le_refl _ | omega | (simp only [next_push, next_set, next_kill]; omega)))))⟩
      · try simp only [decide_eq_true_eq, decide_eq_false_iff_not, Bool.not_eq_true', Bool.not_eq_false', Bool.and_eq_true, Bool.or_eq_true, Bool.and_eq_false_iff, Bool.or_eq_false_iff, beq_iff_eq, bne_iff_ne, beq_eq_false_iff_ne, bne_eq_false_iff_eq, ne_eq, Decidable.not_not, Bool.decide_eq_true] at h3_
        have hd1 : sd.length ≤ 1048576 := by omega
        refine aw_skipT ?_
        refine aw_seq ?_
        refine aw_region ?_
        refine al_opd rfl rfl rfl (ao_loada Try.isAgg34 Try.sizeOf34 rfl (by ((repeat (first | exact blk_push_new _ _ | assumption | apply blk_push_old | apply blk_set_same | refine (blk_set_ne (by first | assumption | omega | (simp only [next_push, next_set, next_kill, ne_eq]; omega))).trans ?_ | refine (blk_kill_ne (by first | assumption | omega | (simp only [next_push, next_set, next_kill, ne_eq]; omega))).trans ?_)); (first | done | fail))) (by rfl) (by first | rfl | (simp; (first | done | fail)))) ?_
        refine al_opd rfl rfl rfl (ao_calld (toRope_c (L := L) (v := v) (l := l) (ha.mono (by (repeat (first | exact Same.refl _ _ | assumption | refine Same.push ?_ (by (first | exact Nat.le_refl _ | omega | (simp only [next_push, next_set, next_kill]; omega))) _ | refine Same.set ?_ (by (first | exact Nat.le_refl _ | omega | (simp only [next_push, next_set, next_kill]; omega))) _ | refine Same.kill ?_ (by (first | exact Nat.le_refl _ | omega | (simp only [next_push, next_set, next_kill]; omega))))))) (by omega)) Try.call28 rfl rfl) ?_
        first | refine al_opd rfl rfl rfl (ao_mv (v := .slice _ _ _) rfl) ?_ | refine al_opd rfl rfl rfl (ao_mv (v := v) rfl) ?_ | refine al_opd rfl rfl rfl (ao_mv (v := u) rfl) ?_ | refine al_opd rfl rfl rfl (ao_mv (v := y) rfl) ?_
        refine al_opd rfl rfl rfl (ao_calld (toHoldS_c (v := u) (l := hs) (hh.mono (by (repeat (first | exact Same.refl _ _ | assumption | refine Same.push ?_ (by (first | exact Nat.le_refl _ | omega | (simp only [next_push, next_set, next_kill]; omega))) _ | refine Same.set ?_ (by (first | exact Nat.le_refl _ | omega | (simp only [next_push, next_set, next_kill]; omega))) _ | refine Same.kill ?_ (by (first | exact Nat.le_refl _ | omega | (simp only [next_push, next_set, next_kill]; omega))))))) (by omega)) Try.call23 rfl rfl) ?_
        first | refine al_opd rfl rfl rfl (ao_mv (v := .slice _ _ _) rfl) ?_ | refine al_opd rfl rfl rfl (ao_mv (v := v) rfl) ?_ | refine al_opd rfl rfl rfl (ao_mv (v := u) rfl) ?_ | refine al_opd rfl rfl rfl (ao_mv (v := y) rfl) ?_
        refine al_opd rfl rfl rfl (ao_calld (toSaidS_c (v := y) (l := sd) (hy.mono (by (repeat (first | exact Same.refl _ _ | assumption | refine Same.push ?_ (by (first | exact Nat.le_refl _ | omega | (simp only [next_push, next_set, next_kill]; omega))) _ | refine Same.set ?_ (by (first | exact Nat.le_refl _ | omega | (simp only [next_push, next_set, next_kill]; omega))) _ | refine Same.kill ?_ (by (first | exact Nat.le_refl _ | omega | (simp only [next_push, next_set, next_kill]; omega))))))) (by omega)) Try.call58 rfl rfl) ?_
        refine al_opd rfl rfl rfl (ao_calld (specCheck0_c (L := L) (ks := l) (hs := hs) (sd := sd) (Sl.full i16_len (by ((repeat (first | exact blk_push_new _ _ | assumption | apply blk_push_old | apply blk_set_same | refine (blk_set_ne (by first | assumption | omega | (simp only [next_push, next_set, next_kill, ne_eq]; omega))).trans ?_ | refine (blk_kill_ne (by first | assumption | omega | (simp only [next_push, next_set, next_kill, ne_eq]; omega))).trans ?_)); (first | done | fail))) rfl rfl rfl) (by ((repeat (first | exact blk_push_new _ _ | assumption | apply blk_push_old | apply blk_set_same | refine (blk_set_ne (by first | assumption | omega | (simp only [next_push, next_set, next_kill, ne_eq]; omega))).trans ?_ | refine (blk_kill_ne (by first | assumption | omega | (simp only [next_push, next_set, next_kill, ne_eq]; omega))).trans ?_)); (first | done | fail))) (by omega) (by omega) (by omega) hL hw (Sl.full said_len (by ((repeat (first | exact blk_push_new _ _ | assumption | apply blk_push_old | apply blk_set_same | refine (blk_set_ne (by first | assumption | omega | (simp only [next_push, next_set, next_kill, ne_eq]; omega))).trans ?_ | refine (blk_kill_ne (by first | assumption | omega | (simp only [next_push, next_set, next_kill, ne_eq]; omega))).trans ?_)); (first | done | fail))) rfl rfl rfl) (by omega) hv) Try.call65 rfl rfl) ?_
        refine al_opd rfl rfl rfl (ao_mv (v := .tuple _) rfl) ?_
        refine al_opd rfl rfl rfl (ao_extract (v := .bool _) rfl rfl) ?_
        refine al_opd rfl rfl rfl (ao_extract (v := .int _ _) rfl rfl) ?_
        refine al_opd rfl rfl rfl (ao_as (v := .bool _) rfl) ?_
        refine al_opd rfl rfl rfl (ao_as (v := .int _ _) rfl) ?_
        refine al_nilT ?_
        refine aw_seq ?_
        refine aw_region ?_
        refine al_opd rfl rfl rfl (ao_loada Try.isAgg34 Try.sizeOf34 rfl (by ((repeat (first | exact blk_push_new _ _ | assumption | apply blk_push_old | apply blk_set_same | refine (blk_set_ne (by first | assumption | omega | (simp only [next_push, next_set, next_kill, ne_eq]; omega))).trans ?_ | refine (blk_kill_ne (by first | assumption | omega | (simp only [next_push, next_set, next_kill, ne_eq]; omega))).trans ?_)); (first | done | fail))) (by rfl) (by first | rfl | (simp; (first | done | fail)))) ?_
        refine al_opd rfl rfl rfl (ao_calld (toRope_c (L := L) (v := v) (l := l) (ha.mono (by (repeat (first | exact Same.refl _ _ | assumption | refine Same.push ?_ (by (first | exact Nat.le_refl _ | omega | (simp only [next_push, next_set, next_kill]; omega))) _ | refine Same.set ?_ (by (first | exact Nat.le_refl _ | omega | (simp only [next_push, next_set, next_kill]; omega))) _ | refine Same.kill ?_ (by (first | exact Nat.le_refl _ | omega | (simp only [next_push, next_set, next_kill]; omega))))))) (by omega)) Try.call28 rfl rfl) ?_
        refine al_opd rfl rfl rfl (ao_alloca (zv37) (by rfl)) ?_
        first | refine al_opd rfl rfl rfl ((ao_storeL Try.sizeOf37 (by rfl) (by rfl) (by ((repeat (first | exact blk_push_new _ _ | assumption | apply blk_push_old | apply blk_set_same | refine (blk_set_ne (by first | assumption | omega | (simp only [next_push, next_set, next_kill, ne_eq]; omega))).trans ?_ | refine (blk_kill_ne (by first | assumption | omega | (simp only [next_push, next_set, next_kill, ne_eq]; omega))).trans ?_)); (first | done | fail))) (by first | rfl | (simp; (first | done | fail))) (by first | rfl | (simp; (first | done | fail))) (by first | rfl | (simp; (first | done | fail)))).to (SetR.eq (by (repeat (first | exact SetR.new | exact SetR.same | (apply SetR.old; · exact ⟨_, by ((repeat (first | exact blk_push_new _ _ | assumption | apply blk_push_old | apply blk_set_same | refine (blk_set_ne (by first | assumption | omega | (simp only [next_push, next_set, next_kill, ne_eq]; omega))).trans ?_ | refine (blk_kill_ne (by first | assumption | omega | (simp only [next_push, next_set, next_kill, ne_eq]; omega))).trans ?_)); (first | done | fail))⟩) | exact SetR.base))))) ?_ | refine al_opd rfl rfl rfl ((ao_storeP (ds := [.int _ _, .slice _ _ _]) Try.sizeOf37 (by rfl) (by rfl) (by ((repeat (first | exact blk_push_new _ _ | assumption | apply blk_push_old | apply blk_set_same | refine (blk_set_ne (by first | assumption | omega | (simp only [next_push, next_set, next_kill, ne_eq]; omega))).trans ?_ | refine (blk_kill_ne (by first | assumption | omega | (simp only [next_push, next_set, next_kill, ne_eq]; omega))).trans ?_)); (first | done | fail))) (by first | rfl | (simp; (first | done | fail))) (by first | rfl | (simp; (first | done | fail))) (by first | decide | (simp; (first | done | fail)) | (simp; omega))).to (SetR.eq (by (repeat (first | exact SetR.new | exact SetR.same | (apply SetR.old; · exact ⟨_, by ((repeat (first | exact blk_push_new _ _ | assumption | apply blk_push_old | apply blk_set_same | refine (blk_set_ne (by first | assumption | omega | (simp only [next_push, next_set, next_kill, ne_eq]; omega))).trans ?_ | refine (blk_kill_ne (by first | assumption | omega | (simp only [next_push, next_set, next_kill, ne_eq]; omega))).trans ?_)); (first | done | fail))⟩) | exact SetR.base))))) ?_
        refine al_nilT ?_
        refine aw_seq ?_
        refine aw_region ?_
        first | refine al_opd rfl rfl rfl (ao_mv (v := .slice _ _ _) rfl) ?_ | refine al_opd rfl rfl rfl (ao_mv (v := v) rfl) ?_ | refine al_opd rfl rfl rfl (ao_mv (v := u) rfl) ?_ | refine al_opd rfl rfl rfl (ao_mv (v := y) rfl) ?_
        refine al_opd rfl rfl rfl (ao_calld (toHoldS_c (v := u) (l := hs) (hh.mono (by (repeat (first | exact Same.refl _ _ | assumption | refine Same.push ?_ (by (first | exact Nat.le_refl _ | omega | (simp only [next_push, next_set, next_kill]; omega))) _ | refine Same.set ?_ (by (first | exact Nat.le_refl _ | omega | (simp only [next_push, next_set, next_kill]; omega))) _ | refine Same.kill ?_ (by (first | exact Nat.le_refl _ | omega | (simp only [next_push, next_set, next_kill]; omega))))))) (by omega)) Try.call23 rfl rfl) ?_
        first | refine al_opd rfl rfl rfl (ao_as (v := .slice _ _ _) rfl) ?_ | refine al_opd rfl rfl rfl (ao_as (v := v) rfl) ?_ | refine al_opd rfl rfl rfl (ao_as (v := u) rfl) ?_ | refine al_opd rfl rfl rfl (ao_as (v := y) rfl) ?_
        refine al_nilT ?_
        refine aw_seq ?_
        refine aw_region ?_
        first | refine al_opd rfl rfl rfl (ao_mv (v := .slice _ _ _) rfl) ?_ | refine al_opd rfl rfl rfl (ao_mv (v := v) rfl) ?_ | refine al_opd rfl rfl rfl (ao_mv (v := u) rfl) ?_ | refine al_opd rfl rfl rfl (ao_mv (v := y) rfl) ?_
        refine al_opd rfl rfl rfl (ao_calld (toSaidS_c (v := y) (l := sd) (hy.mono (by (repeat (first | exact Same.refl _ _ | assumption | refine Same.push ?_ (by (first | exact Nat.le_refl _ | omega | (simp only [next_push, next_set, next_kill]; omega))) _ | refine Same.set ?_ (by (first | exact Nat.le_refl _ | omega | (simp only [next_push, next_set, next_kill]; omega))) _ | refine Same.kill ?_ (by (first | exact Nat.le_refl _ | omega | (simp only [next_push, next_set, next_kill]; omega))))))) (by omega)) Try.call58 rfl rfl) ?_
        first | refine al_opd rfl rfl rfl (ao_as (v := .slice _ _ _) rfl) ?_ | refine al_opd rfl rfl rfl (ao_as (v := v) rfl) ?_ | refine al_opd rfl rfl rfl (ao_as (v := u) rfl) ?_ | refine al_opd rfl rfl rfl (ao_as (v := y) rfl) ?_
        refine al_nilT ?_
        refine aw_seq ?_
        refine aw_region ?_
        refine al_opd rfl rfl rfl (ao_loada Try.isAgg37 Try.sizeOf37 rfl (by ((repeat (first | exact blk_push_new _ _ | assumption | apply blk_push_old | apply blk_set_same | refine (blk_set_ne (by first | assumption | omega | (simp only [next_push, next_set, next_kill, ne_eq]; omega))).trans ?_ | refine (blk_kill_ne (by first | assumption | omega | (simp only [next_push, next_set, next_kill, ne_eq]; omega))).trans ?_)); (first | done | fail))) (by rfl) (by first | rfl | (simp; (first | done | fail)))) ?_
        first | refine al_opd rfl rfl rfl (ao_mv (v := .slice _ _ _) rfl) ?_ | refine al_opd rfl rfl rfl (ao_mv (v := v) rfl) ?_ | refine al_opd rfl rfl rfl (ao_mv (v := u) rfl) ?_ | refine al_opd rfl rfl rfl (ao_mv (v := y) rfl) ?_
        first | refine al_opd rfl rfl rfl (ao_mv (v := .slice _ _ _) rfl) ?_ | refine al_opd rfl rfl rfl (ao_mv (v := v) rfl) ?_ | refine al_opd rfl rfl rfl (ao_mv (v := u) rfl) ?_ | refine al_opd rfl rfl rfl (ao_mv (v := y) rfl) ?_
        refine al_opd rfl rfl rfl (ao_calld (implCheck0_c (L := L) (ks := l) (hs := hs) (sd := sd) (Sl.full i16_len (by ((repeat (first | exact blk_push_new _ _ | assumption | apply blk_push_old | apply blk_set_same | refine (blk_set_ne (by first | assumption | omega | (simp only [next_push, next_set, next_kill, ne_eq]; omega))).trans ?_ | refine (blk_kill_ne (by first | assumption | omega | (simp only [next_push, next_set, next_kill, ne_eq]; omega))).trans ?_)); (first | done | fail))) rfl rfl rfl) (by ((repeat (first | exact blk_push_new _ _ | assumption | apply blk_push_old | apply blk_set_same | refine (blk_set_ne (by first | assumption | omega | (simp only [next_push, next_set, next_kill, ne_eq]; omega))).trans ?_ | refine (blk_kill_ne (by first | assumption | omega | (simp only [next_push, next_set, next_kill, ne_eq]; omega))).trans ?_)); (first | done | fail))) (by omega) (by omega) (by omega) hL hw (Sl.full said_len (by ((repeat (first | exact blk_push_new _ _ | assumption | apply blk_push_old | apply blk_set_same | refine (blk_set_ne (by first | assumption | omega | (simp only [next_push, next_set, next_kill, ne_eq]; omega))).trans ?_ | refine (blk_kill_ne (by first | assumption | omega | (simp only [next_push, next_set, next_kill, ne_eq]; omega))).trans ?_)); (first | done | fail))) rfl rfl rfl) (by omega) hv) Try.call66 rfl rfl) ?_
        refine al_opd rfl rfl rfl (ao_mv (v := .tuple _) rfl) ?_
        refine al_opd rfl rfl rfl (ao_extract (v := .bool _) rfl rfl) ?_
        refine al_opd rfl rfl rfl (ao_extract (v := .int _ _) rfl rfl) ?_
        refine al_opd rfl rfl rfl (ao_as (v := .bool _) rfl) ?_
        refine al_opd rfl rfl rfl (ao_as (v := .int _ _) rfl) ?_
        refine al_nilT ?_
        refine aw_seq ?_
        refine aw_seq ?_
        refine aw_region ?_
        refine al_opd rfl rfl rfl (ao_mv (v := .bool _) rfl) ?_
        refine al_opd rfl rfl rfl (ao_mv (v := .bool _) rfl) ?_
        refine al_opd rfl rfl rfl (ao_neB Try.underlying4 rfl rfl) ?_
        refine al_opd rfl rfl rfl (ao_mv (v := .bool _) rfl) ?_
        refine al_cases (d := 56) rfl (fun h4_ => ?_) (fun h4_ => ?_)
        · try simp only [decide_eq_true_eq, decide_eq_false_iff_not, Bool.not_eq_true', Bool.not_eq_false', Bool.and_eq_true, Bool.or_eq_true, Bool.and_eq_false_iff, Bool.or_eq_false_iff, beq_iff_eq, bne_iff_ne, beq_eq_false_iff_ne, bne_eq_false_iff_eq, ne_eq, Decidable.not_not, Bool.decide_eq_true] at h4_
          first | done | omega | (exfalso; revert h4_; simp; (first | done | omega))
        · try simp only [decide_eq_true_eq, decide_eq_false_iff_not, Bool.not_eq_true', Bool.not_eq_false', Bool.and_eq_true, Bool.or_eq_true, Bool.and_eq_false_iff, Bool.or_eq_false_iff, beq_iff_eq, bne_iff_ne, beq_eq_false_iff_ne, bne_eq_false_iff_eq, ne_eq, Decidable.not_not, Bool.decide_eq_true] at h4_
          refine al_gyes rfl rfl rfl rfl rfl (ao_mv (v := .int _ _) rfl) ?_
          refine al_gyes rfl rfl rfl rfl rfl (ao_mv (v := .int _ _) rfl) ?_
          refine al_gyes rfl rfl rfl rfl rfl (ao_neq rfl rfl) ?_
          refine al_opd rfl rfl rfl (ao_pickF rfl (v := .bool _) rfl) ?_
          refine al_nilT ?_
          refine aw_cond rfl (fun h5_ => ?_) (fun h5_ => ?_)
          · try simp only [decide_eq_true_eq, decide_eq_false_iff_not, Bool.not_eq_true', Bool.not_eq_false', Bool.and_eq_true, Bool.or_eq_true, Bool.and_eq_false_iff, Bool.or_eq_false_iff, beq_iff_eq, bne_iff_ne, beq_eq_false_iff_ne, bne_eq_false_iff_eq, ne_eq, Decidable.not_not, Bool.decide_eq_true] at h5_
            first | done | omega | (exfalso; revert h5_; simp; (first | done | omega))
          · try simp only [decide_eq_true_eq, decide_eq_false_iff_not, Bool.not_eq_true', Bool.not_eq_false', Bool.and_eq_true, Bool.or_eq_true, Bool.and_eq_false_iff, Bool.or_eq_false_iff, beq_iff_eq, bne_iff_ne, beq_eq_false_iff_ne, bne_eq_false_iff_eq, ne_eq, Decidable.not_not, Bool.decide_eq_true] at h5_
            refine aw_skipT ?_
            refine aw_seq ?_
            refine aw_seq ?_
            refine aw_draw (m := 5) mo (by kernel_rfl) rfl ?_
            refine dw_opd rfl rfl rfl (ao_loada Try.isAgg37 Try.sizeOf37 rfl (by ((repeat (first | exact blk_push_new _ _ | assumption | apply blk_push_old | apply blk_set_same | refine (blk_set_ne (by first | assumption | omega | (simp only [next_push, next_set, next_kill, ne_eq]; omega))).trans ?_ | refine (blk_kill_ne (by first | assumption | omega | (simp only [next_push, next_set, next_kill, ne_eq]; omega))).trans ?_)); (first | done | fail))) (by rfl) (by first | rfl | (simp; (first | done | fail)))) ?_
            refine dw_opd rfl rfl rfl (ao_loada Try.isAgg34 Try.sizeOf34 rfl (by ((repeat (first | exact blk_push_new _ _ | assumption | apply blk_push_old | apply blk_set_same | refine (blk_set_ne (by first | assumption | omega | (simp only [next_push, next_set, next_kill, ne_eq]; omega))).trans ?_ | refine (blk_kill_ne (by first | assumption | omega | (simp only [next_push, next_set, next_kill, ne_eq]; omega))).trans ?_)); (first | done | fail))) (by rfl) (by first | rfl | (simp; (first | done | fail)))) ?_
            refine dw_opn rfl rfl rfl (ao_calld (toRope_c (L := L) (v := v) (l := l) (ha.mono (by (repeat (first | exact Same.refl _ _ | assumption | refine Same.push ?_ (by (first | exact Nat.le_refl _ | omega | (simp only [next_push, next_set, next_kill]; omega))) _ | refine Same.set ?_ (by (first | exact Nat.le_refl _ | omega | (simp only [next_push, next_set, next_kill]; omega))) _ | refine Same.kill ?_ (by (first | exact Nat.le_refl _ | omega | (simp only [next_push, next_set, next_kill]; omega))))))) (by omega)) Try.call28 rfl rfl) ?_
            refine dw_opd rfl rfl rfl (ao_calld (eqRope_c (L := L) (M := L) (l := l) (m := l) (Sl.full i16_len (by ((repeat (first | exact blk_push_new _ _ | assumption | apply blk_push_old | apply blk_set_same | refine (blk_set_ne (by first | assumption | omega | (simp only [next_push, next_set, next_kill, ne_eq]; omega))).trans ?_ | refine (blk_kill_ne (by first | assumption | omega | (simp only [next_push, next_set, next_kill, ne_eq]; omega))).trans ?_)); (first | done | fail))) rfl rfl rfl) (Sl.full i16_len (by ((repeat (first | exact blk_push_new _ _ | assumption | apply blk_push_old | apply blk_set_same | refine (blk_set_ne (by first | assumption | omega | (simp only [next_push, next_set, next_kill, ne_eq]; omega))).trans ?_ | refine (blk_kill_ne (by first | assumption | omega | (simp only [next_push, next_set, next_kill, ne_eq]; omega))).trans ?_)); (first | done | fail))) rfl rfl rfl) (by omega)) Try.call30 rfl rfl) ?_
            refine dw_opd rfl rfl rfl (ao_not rfl) ?_
            refine dw_end ?_
            refine al_nilT ?_
            refine aw_cond rfl (fun h6_ => ?_) (fun h6_ => ?_)
            · try simp only [decide_eq_true_eq, decide_eq_false_iff_not, Bool.not_eq_true', Bool.not_eq_false', Bool.and_eq_true, Bool.or_eq_true, Bool.and_eq_false_iff, Bool.or_eq_false_iff, beq_iff_eq, bne_iff_ne, beq_eq_false_iff_ne, bne_eq_false_iff_eq, ne_eq, Decidable.not_not, Bool.decide_eq_true] at h6_
              first | done | omega | (exfalso; revert h6_; simp; (first | done | omega))
            · try simp only [decide_eq_true_eq, decide_eq_false_iff_not, Bool.not_eq_true', Bool.not_eq_false', Bool.and_eq_true, Bool.or_eq_true, Bool.and_eq_false_iff, Bool.or_eq_false_iff, beq_iff_eq, bne_iff_ne, beq_eq_false_iff_ne, bne_eq_false_iff_eq, ne_eq, Decidable.not_not, Bool.decide_eq_true] at h6_
              refine aw_skipT ?_
              refine aw_seq ?_
              refine aw_seq ?_
              refine aw_region ?_
              first | refine al_opd rfl rfl rfl (ao_mv (v := .slice _ _ _) rfl) ?_ | refine al_opd rfl rfl rfl (ao_mv (v := v) rfl) ?_ | refine al_opd rfl rfl rfl (ao_mv (v := u) rfl) ?_ | refine al_opd rfl rfl rfl (ao_mv (v := y) rfl) ?_
              first | refine al_opd rfl rfl rfl (ao_mv (v := .slice _ _ _) rfl) ?_ | refine al_opd rfl rfl rfl (ao_mv (v := v) rfl) ?_ | refine al_opd rfl rfl rfl (ao_mv (v := u) rfl) ?_ | refine al_opd rfl rfl rfl (ao_mv (v := y) rfl) ?_
              refine al_opd rfl rfl rfl (ao_calld (toHoldS_c (v := u) (l := hs) (hh.mono (by (repeat (first | exact Same.refl _ _ | assumption | refine Same.push ?_ (by (first | exact Nat.le_refl _ | omega | (simp only [next_push, next_set, next_kill]; omega))) _ | refine Same.set ?_ (by (first | exact Nat.le_refl _ | omega | (simp only [next_push, next_set, next_kill]; omega))) _ | refine Same.kill ?_ (by (first | exact Nat.le_refl _ | omega | (simp only [next_push, next_set, next_kill]; omega))))))) (by omega)) Try.call23 rfl rfl) ?_
              refine al_opd rfl rfl rfl (ao_calld (eqHoldS_c (l := hs) (m := hs) (Sl.full hold_len (by ((repeat (first | exact blk_push_new _ _ | assumption | apply blk_push_old | apply blk_set_same | refine (blk_set_ne (by first | assumption | omega | (simp only [next_push, next_set, next_kill, ne_eq]; omega))).trans ?_ | refine (blk_kill_ne (by first | assumption | omega | (simp only [next_push, next_set, next_kill, ne_eq]; omega))).trans ?_)); (first | done | fail))) rfl rfl rfl) (Sl.full hold_len (by ((repeat (first | exact blk_push_new _ _ | assumption | apply blk_push_old | apply blk_set_same | refine (blk_set_ne (by first | assumption | omega | (simp only [next_push, next_set, next_kill, ne_eq]; omega))).trans ?_ | refine (blk_kill_ne (by first | assumption | omega | (simp only [next_push, next_set, next_kill, ne_eq]; omega))).trans ?_)); (first | done | fail))) rfl rfl rfl) (by omega)) Try.call25 rfl rfl) ?_
              refine al_opd rfl rfl rfl (ao_not rfl) ?_
              refine al_nilT ?_
              refine aw_cond rfl (fun h7_ => ?_) (fun h7_ => ?_)
              · try simp only [decide_eq_true_eq, decide_eq_false_iff_not, Bool.not_eq_true', Bool.not_eq_false', Bool.and_eq_true, Bool.or_eq_true, Bool.and_eq_false_iff, Bool.or_eq_false_iff, beq_iff_eq, bne_iff_ne, beq_eq_false_iff_ne, bne_eq_false_iff_eq, ne_eq, Decidable.not_not, Bool.decide_eq_true] at h7_
                first | done | omega | (exfalso; revert h7_; simp; (first | done | omega))
              · try simp only [decide_eq_true_eq, decide_eq_false_iff_not, Bool.not_eq_true', Bool.not_eq_false', Bool.and_eq_true, Bool.or_eq_true, Bool.and_eq_false_iff, Bool.or_eq_false_iff, beq_iff_eq, bne_iff_ne, beq_eq_false_iff_ne, bne_eq_false_iff_eq, ne_eq, Decidable.not_not, Bool.decide_eq_true] at h7_
                refine aw_skipT ?_
                refine aw_seq ?_
                refine aw_seq ?_
                refine aw_region ?_
                first | refine al_opd rfl rfl rfl (ao_mv (v := .slice _ _ _) rfl) ?_ | refine al_opd rfl rfl rfl (ao_mv (v := v) rfl) ?_ | refine al_opd rfl rfl rfl (ao_mv (v := u) rfl) ?_ | refine al_opd rfl rfl rfl (ao_mv (v := y) rfl) ?_
                first | refine al_opd rfl rfl rfl (ao_mv (v := .slice _ _ _) rfl) ?_ | refine al_opd rfl rfl rfl (ao_mv (v := v) rfl) ?_ | refine al_opd rfl rfl rfl (ao_mv (v := u) rfl) ?_ | refine al_opd rfl rfl rfl (ao_mv (v := y) rfl) ?_
                refine al_opd rfl rfl rfl (ao_calld (toSaidS_c (v := y) (l := sd) (hy.mono (by (repeat (first | exact Same.refl _ _ | assumption | refine Same.push ?_ (by (first | exact Nat.le_refl _ | omega | (simp only [next_push, next_set, next_kill]; omega))) _ | refine Same.set ?_ (by (first | exact Nat.le_refl _ | omega | (simp only [next_push, next_set, next_kill]; omega))) _ | refine Same.kill ?_ (by (first | exact Nat.le_refl _ | omega | (simp only [next_push, next_set, next_kill]; omega))))))) (by omega)) Try.call58 rfl rfl) ?_
                refine al_opd rfl rfl rfl (ao_calld (eqSaidS_c (l := sd) (m := sd) (Sl.full said_len (by ((repeat (first | exact blk_push_new _ _ | assumption | apply blk_push_old | apply blk_set_same | refine (blk_set_ne (by first | assumption | omega | (simp only [next_push, next_set, next_kill, ne_eq]; omega))).trans ?_ | refine (blk_kill_ne (by first | assumption | omega | (simp only [next_push, next_set, next_kill, ne_eq]; omega))).trans ?_)); (first | done | fail))) rfl rfl rfl) (Sl.full said_len (by ((repeat (first | exact blk_push_new _ _ | assumption | apply blk_push_old | apply blk_set_same | refine (blk_set_ne (by first | assumption | omega | (simp only [next_push, next_set, next_kill, ne_eq]; omega))).trans ?_ | refine (blk_kill_ne (by first | assumption | omega | (simp only [next_push, next_set, next_kill, ne_eq]; omega))).trans ?_)); (first | done | fail))) rfl rfl rfl) (by omega)) Try.call60 rfl rfl) ?_
                refine al_opd rfl rfl rfl (ao_not rfl) ?_
                refine al_nilT ?_
                refine aw_cond rfl (fun h8_ => ?_) (fun h8_ => ?_)
                · try simp only [decide_eq_true_eq, decide_eq_false_iff_not, Bool.not_eq_true', Bool.not_eq_false', Bool.and_eq_true, Bool.or_eq_true, Bool.and_eq_false_iff, Bool.or_eq_false_iff, beq_iff_eq, bne_iff_ne, beq_eq_false_iff_ne, bne_eq_false_iff_eq, ne_eq, Decidable.not_not, Bool.decide_eq_true] at h8_
                  first | done | omega | (exfalso; revert h8_; simp; (first | done | omega))
                · try simp only [decide_eq_true_eq, decide_eq_false_iff_not, Bool.not_eq_true', Bool.not_eq_false', Bool.and_eq_true, Bool.or_eq_true, Bool.and_eq_false_iff, Bool.or_eq_false_iff, beq_iff_eq, bne_iff_ne, beq_eq_false_iff_ne, bne_eq_false_iff_eq, ne_eq, Decidable.not_not, Bool.decide_eq_true] at h8_
                  refine aw_skipT ?_
                  refine aw_seq ?_
                  refine aw_region ?_
                  refine al_opd rfl rfl rfl (ao_as (v := .bool _) rfl) ?_
                  refine al_nilT ?_
                  refine aw_ret ?_
                  refine ends1 rfl (rv_tmp (v := .bool _) rfl) ?_
                  exact ⟨by first | rfl | (simp [*]; (first | done | fail)), by (repeat (first | exact Same.refl _ _ | assumption | refine Same.push ?_ (by (first | exact Nat.le_refl _ | omega | (simp only [next_push, next_set, next_kill]; omega))) _ | refine Same.set ?_ (by (first | exact Nat.le_refl _ | omega | (simp only [next_push, next_set, next_kill]; omega))) _ | refine Same.kill ?_ (by (first | exact Nat.le_refl _ | omega | (simp only [next_push, next_set, next_kill]; omega)))))⟩

theorem lawCheck_c {L : Int} {v u : Value} {l : List Int} {hs : List Hold} {y : Value} {sd : List Said} {H : AHeap} (ha : Sl H i16 1 v l) (hh : Sl H hold 2 u hs) (hl : l.length ≤ 9223372036854775807) (hm : hs.length ≤ 9223372036854775807) (hL : -32768 ≤ L ∧ L ≤ 32767) (hw : holdOk hs) (hy : Sl H said 2 y sd) (hd : sd.length ≤ 9223372036854775807) : ACd Try.prog 18 [.agg #[.int .i16 L, v], u, y] H (.bool true) H := by
  by_cases hv : okRope L l ∧ okHolds l.length hs
  · exact lawCheck1_c ha hh hl hm hL hw hy hd hv
  · exact lawCheck0_c ha hh hl hm hL hw hy hd hv

end Go.Proofs.Ytohaokdgokknaaa
