/- Contracts of the program's functions over abstract heaps. -/
import Derived.Test.YtokgcdacdmllbaaFile
import Derived.Test.YtokgcdacdmllbaaVr
import Derived.Test.YtokgcdacdmllbaaFl
namespace Go.Proofs.Ytokgcdacdmllbaa
open Go Go.AW Go.Proofs
set_option linter.unusedVariables false
set_option linter.unusedSimpArgs false
set_option maxRecDepth 100000
set_option maxHeartbeats 2000000

-- (impl.File).isFile$1
theorem isFile1_c {r : Room} {s : Spot} {b : Bool} {qb : Nat} {H : AHeap} (hq : H.blk qb = some (.cells (roomC r) 1)) (hw : wfRoom r) (hs : wfSpot s) (hb : b = true ↔ ¬ isFree r s) : ACd Try.prog 92 [.agg #[.int .i8 s.x, .int .i8 s.y], .pointer (some ⟨qb, 0, none⟩)] H (.bool b) (H) := by
  obtain ⟨c, hc⟩ := exists_bool (isFree r s)
  refine ac_gc0 (fun β => VR.plainT β (by first | rfl | simp [plainT, plainV, plain1])) (ac_body Try.func92 rfl Try.ntmps92 rfl ?_)
  refine aw_seq ?_
  refine aw_region ?_
  refine al_opd rfl rfl rfl (ao_boxa (by rfl)) ?_
  refine al_opd rfl rfl rfl (ao_as (v := .bool _) rfl) ?_
  refine al_nilT ?_
  refine aw_seq ?_
  refine aw_region ?_
  refine al_opd rfl rfl rfl (ao_loada Try.isAgg44 Try.sizeOf44 rfl (by ((repeat (first | exact blk_push_new _ _ | assumption | apply blk_push_old | apply blk_set_same | refine (blk_set_ne (by first | assumption | omega | (simp only [next_push, next_set, next_kill, ne_eq]; omega))).trans ?_ | refine (blk_kill_ne (by first | assumption | omega | (simp only [next_push, next_set, next_kill, ne_eq]; omega))).trans ?_)); (first | done | fail))) (by rfl) (by first | rfl | (simp; (first | done | fail)))) ?_
  refine al_opd rfl rfl rfl (ao_loada Try.isAgg63 Try.sizeOf63 rfl (by ((repeat (first | exact blk_push_new _ _ | assumption | apply blk_push_old | apply blk_set_same | refine (blk_set_ne (by first | assumption | omega | (simp only [next_push, next_set, next_kill, ne_eq]; omega))).trans ?_ | refine (blk_kill_ne (by first | assumption | omega | (simp only [next_push, next_set, next_kill, ne_eq]; omega))).trans ?_)); (first | done | fail))) (by rfl) (by first | rfl | (simp; (first | done | fail)))) ?_
  refine al_opd rfl rfl rfl (ao_calld (isFree_c (r := r) (s := s) (b := c) hw hs hc) Try.call93 rfl rfl) ?_
  refine al_opd rfl rfl rfl (ao_not rfl) ?_
  refine al_opd rfl rfl rfl (ao_as (v := .bool _) rfl) ?_
  refine al_nilT ?_
  refine aw_ret ?_
  refine ends1 rfl (rv_tmp (v := .bool _) rfl) ?_
  exact ⟨beqv hb (by rw [← hc]; simp), by (repeat (first | exact Same.refl _ _ | assumption | refine Same.push ?_ (by (first | exact Nat.le_refl _ | omega | (simp only [next_push, next_set, next_kill]; omega))) _ | refine Same.set ?_ (by (first | exact Nat.le_refl _ | omega | (simp only [next_push, next_set, next_kill]; omega))) _ | refine Same.kill ?_ (by (first | exact Nat.le_refl _ | omega | (simp only [next_push, next_set, next_kill]; omega)))))⟩

-- (impl.File).isFile
theorem isFile_c {l : List Spot} {lb c' : Nat} {r : Room} {b : Bool} {H : AHeap} (hk0 : H.blk lb = some (.cells (fl spot l) 2)) (hcc' : l.length ≤ c') (hn : l.length ≤ 4194304) (hw : wfRoom r) (hsp : wfSpots l) (hb : b = true ↔ fileOk r l) : ACd Try.prog 69 [.slice (some ⟨lb, 0, none⟩) l.length c', .agg (roomC r).toArray] H (.bool b) (H) := by
  have hh0 : Sl H spot 2 (.slice (some ⟨lb, 0, none⟩) l.length c') l := Sl.full spot_len hk0 rfl rfl rfl
  have hlt0 := AHeap.lt hk0
  obtain ⟨b1, hb1⟩ := exists_bool (chain l)
  obtain ⟨bc, hbc⟩ := exists_bool (∃ j, j < l.length ∧ ∃ s, l[j]? = some s ∧ ¬ isFree r s)
  refine ac_gc0 (fun β => VR.plainT β (by first | rfl | simp [plainT, plainV, plain1])) (ac_body Try.func69 rfl Try.ntmps69 rfl ?_)
  refine aw_seq ?_
  refine aw_region ?_
  refine al_opd rfl rfl rfl (ao_boxa (by rfl)) ?_
  refine al_opd rfl rfl rfl (ao_as (v := .bool _) rfl) ?_
  refine al_nilT ?_
  refine aw_seq ?_
  refine aw_region ?_
  refine al_opd rfl rfl rfl (ao_mv (v := .slice _ _ _) rfl) ?_
  refine al_opd rfl rfl rfl (ao_calld (isChain_c (l := l) (lb := lb) (c' := c') (b := b1) (by ((repeat (first | exact blk_push_new _ _ | assumption | apply blk_push_old | apply blk_set_same | refine (blk_set_ne (by first | assumption | omega | (simp only [next_push, next_set, next_kill, ne_eq]; omega))).trans ?_ | refine (blk_kill_ne (by first | assumption | omega | (simp only [next_push, next_set, next_kill, ne_eq]; omega))).trans ?_)); (first | done | fail))) hcc' hn hb1) Try.call91 rfl rfl) ?_
  refine al_opd rfl rfl rfl (ao_mv (v := .bool _) rfl) ?_
  refine al_cases (d := 7) rfl (fun h1_ => ?_) (fun h1_ => ?_)
  · try simp only [decide_eq_true_eq, decide_eq_false_iff_not, Bool.not_eq_true', Bool.not_eq_false', Bool.and_eq_true, Bool.or_eq_true, Bool.and_eq_false_iff, Bool.or_eq_false_iff, beq_iff_eq, bne_iff_ne, beq_eq_false_iff_ne, bne_eq_false_iff_eq, ne_eq, Decidable.not_not, Bool.decide_eq_true] at h1_
    refine al_gyes rfl rfl rfl rfl rfl (ao_mv (v := .slice _ _ _) rfl) ?_
    refine al_gyes rfl rfl rfl rfl rfl (ao_makeFunc rfl rfl) ?_
    refine al_gyes rfl rfl rfl rfl rfl (ao_calld (containsSp_c (fnum := 92) (fs := #[]) (cs := #[.pointer (some ⟨H.next, 0, none⟩)]) (l := l) (p := fun s => ¬ isFree r s) (b := bc) Try.call92 (fun i s h => by obtain ⟨b, hb⟩ := exists_bool (¬ isFree r s); exact ⟨b, hb, isFile1_c (r := r) (s := s) (b := b) (by ((repeat (first | exact blk_push_new _ _ | assumption | apply blk_push_old | apply blk_set_same | refine (blk_set_ne (by first | assumption | omega | (simp only [next_push, next_set, next_kill, ne_eq]; omega))).trans ?_ | refine (blk_kill_ne (by first | assumption | omega | (simp only [next_push, next_set, next_kill, ne_eq]; omega))).trans ?_)); (first | done | fail))) hw (hsp i s h) hb⟩) (hh0.mono (by (repeat (first | exact Same.refl _ _ | assumption | refine Same.push ?_ (by (first | exact Nat.le_refl _ | omega | (simp only [next_push, next_set, next_kill]; omega))) _ | refine Same.set ?_ (by (first | exact Nat.le_refl _ | omega | (simp only [next_push, next_set, next_kill]; omega))) _ | refine Same.kill ?_ (by (first | exact Nat.le_refl _ | omega | (simp only [next_push, next_set, next_kill]; omega))))))) hn hbc) Try.call71 rfl rfl) ?_
    refine al_gyes rfl rfl rfl rfl rfl (ao_not rfl) ?_
    refine al_opd rfl rfl rfl (ao_pickT rfl (v := .bool _) rfl) ?_
    refine al_opd rfl rfl rfl (ao_as (v := .bool _) rfl) ?_
    refine al_nilT ?_
    refine aw_ret ?_
    refine ends1 rfl (rv_tmp (v := .bool _) rfl) ?_
    exact ⟨beqv hb ⟨fun e => ⟨hb1.mp h1_, fun i x hx => Classical.byContradiction fun hne => absurd (hbc.mpr ⟨i, (List.getElem?_eq_some_iff.mp hx).1, x, hx, hne⟩) (by simp_all)⟩, fun q => by cases hq : bc with | false => rfl | true => (obtain ⟨j, _, s, hs, hf⟩ := hbc.mp hq; exact absurd (q.2 j s hs) hf)⟩, by (repeat (first | exact Same.refl _ _ | assumption | refine Same.push ?_ (by (first | exact Nat.le_refl _ | omega | (simp only [next_push, next_set, next_kill]; omega))) _ | refine Same.set ?_ (by (first | exact Nat.le_refl _ | omega | (simp only [next_push, next_set, next_kill]; omega))) _ | refine Same.kill ?_ (by (first | exact Nat.le_refl _ | omega | (simp only [next_push, next_set, next_kill]; omega)))))⟩
  · try simp only [decide_eq_true_eq, decide_eq_false_iff_not, Bool.not_eq_true', Bool.not_eq_false', Bool.and_eq_true, Bool.or_eq_true, Bool.and_eq_false_iff, Bool.or_eq_false_iff, beq_iff_eq, bne_iff_ne, beq_eq_false_iff_ne, bne_eq_false_iff_eq, ne_eq, Decidable.not_not, Bool.decide_eq_true] at h1_
    refine al_gno rfl rfl rfl rfl rfl ?_
    refine al_gno rfl rfl rfl rfl rfl ?_
    refine al_gno rfl rfl rfl rfl rfl ?_
    refine al_gno rfl rfl rfl rfl rfl ?_
    refine al_opd rfl rfl rfl (ao_pickF rfl (v := .bool _) rfl) ?_
    refine al_opd rfl rfl rfl (ao_as (v := .bool _) rfl) ?_
    refine al_nilT ?_
    refine aw_ret ?_
    refine ends1 rfl (rv_tmp (v := .bool _) rfl) ?_
    exact ⟨bf hb (fun q => by rw [hb1.mpr q.1] at h1_; cases h1_), by (repeat (first | exact Same.refl _ _ | assumption | refine Same.push ?_ (by (first | exact Nat.le_refl _ | omega | (simp only [next_push, next_set, next_kill]; omega))) _ | refine Same.set ?_ (by (first | exact Nat.le_refl _ | omega | (simp only [next_push, next_set, next_kill]; omega))) _ | refine Same.kill ?_ (by (first | exact Nat.le_refl _ | omega | (simp only [next_push, next_set, next_kill]; omega)))))⟩

-- impl.ValidFile
theorem implValidFile_c {l : List Spot} {lb c' : Nat} {r : Room} {b : Bool} {H : AHeap} (hk0 : H.blk lb = some (.cells (fl spot l) 2)) (hcc' : l.length ≤ c') (hn : l.length ≤ 4194304) (hw : wfRoom r) (hsp : wfSpots l) (hb : b = true ↔ okFile r l) : ACd Try.prog 32 [.agg (roomC r).toArray, .slice (some ⟨lb, 0, none⟩) l.length c'] H (.bool b) (H) := by
  have hh0 : Sl H spot 2 (.slice (some ⟨lb, 0, none⟩) l.length c') l := Sl.full spot_len hk0 rfl rfl rfl
  have hlt0 := AHeap.lt hk0
  obtain ⟨b1, hb1⟩ := exists_bool (okRoom r)
  obtain ⟨b2, hb2⟩ := exists_bool (fileOk r l)
  refine ac_gc0 (fun β => VR.plainT β (by first | rfl | simp [plainT, plainV, plain1])) (ac_body Try.func32 rfl Try.ntmps32 rfl ?_)
  refine aw_seq ?_
  refine aw_region ?_
  refine al_opd rfl rfl rfl (ao_boxa (by rfl)) ?_
  refine al_opd rfl rfl rfl (ao_as (v := .bool _) rfl) ?_
  refine al_nilT ?_
  refine aw_seq ?_
  refine aw_region ?_
  refine al_opd rfl rfl rfl (ao_loada Try.isAgg44 Try.sizeOf44 rfl (by ((repeat (first | exact blk_push_new _ _ | assumption | apply blk_push_old | apply blk_set_same | refine (blk_set_ne (by first | assumption | omega | (simp only [next_push, next_set, next_kill, ne_eq]; omega))).trans ?_ | refine (blk_kill_ne (by first | assumption | omega | (simp only [next_push, next_set, next_kill, ne_eq]; omega))).trans ?_)); (first | done | fail))) (by rfl) (by first | rfl | (simp; (first | done | fail)))) ?_
  refine al_opd rfl rfl rfl (ao_calld (implValid_c (r := r) (b := b1) hw hb1) Try.call68 rfl rfl) ?_
  refine al_opd rfl rfl rfl (ao_mv (v := .bool _) rfl) ?_
  refine al_cases (d := 7) rfl (fun h1_ => ?_) (fun h1_ => ?_)
  · try simp only [decide_eq_true_eq, decide_eq_false_iff_not, Bool.not_eq_true', Bool.not_eq_false', Bool.and_eq_true, Bool.or_eq_true, Bool.and_eq_false_iff, Bool.or_eq_false_iff, beq_iff_eq, bne_iff_ne, beq_eq_false_iff_ne, bne_eq_false_iff_eq, ne_eq, Decidable.not_not, Bool.decide_eq_true] at h1_
    refine al_gyes rfl rfl rfl rfl rfl (ao_mv (v := .slice _ _ _) rfl) ?_
    refine al_gyes rfl rfl rfl rfl rfl (ao_loada Try.isAgg44 Try.sizeOf44 rfl (by ((repeat (first | exact blk_push_new _ _ | assumption | apply blk_push_old | apply blk_set_same | refine (blk_set_ne (by first | assumption | omega | (simp only [next_push, next_set, next_kill, ne_eq]; omega))).trans ?_ | refine (blk_kill_ne (by first | assumption | omega | (simp only [next_push, next_set, next_kill, ne_eq]; omega))).trans ?_)); (first | done | fail))) (by rfl) (by first | rfl | (simp; (first | done | fail)))) ?_
    refine al_gyes rfl rfl rfl rfl rfl (ao_calld (isFile_c (l := l) (lb := lb) (c' := c') (r := r) (b := b2) (by ((repeat (first | exact blk_push_new _ _ | assumption | apply blk_push_old | apply blk_set_same | refine (blk_set_ne (by first | assumption | omega | (simp only [next_push, next_set, next_kill, ne_eq]; omega))).trans ?_ | refine (blk_kill_ne (by first | assumption | omega | (simp only [next_push, next_set, next_kill, ne_eq]; omega))).trans ?_)); (first | done | fail))) hcc' hn hw hsp hb2) Try.call69 rfl rfl) ?_
    refine al_opd rfl rfl rfl (ao_pickT rfl (v := .bool _) rfl) ?_
    refine al_opd rfl rfl rfl (ao_as (v := .bool _) rfl) ?_
    refine al_nilT ?_
    refine aw_ret ?_
    refine ends1 rfl (rv_tmp (v := .bool _) rfl) ?_
    exact ⟨beqv hb ⟨fun e => ⟨hb1.mp h1_, hb2.mp e⟩, fun q => hb2.mpr q.2⟩, by (repeat (first | exact Same.refl _ _ | assumption | refine Same.push ?_ (by (first | exact Nat.le_refl _ | omega | (simp only [next_push, next_set, next_kill]; omega))) _ | refine Same.set ?_ (by (first | exact Nat.le_refl _ | omega | (simp only [next_push, next_set, next_kill]; omega))) _ | refine Same.kill ?_ (by (first | exact Nat.le_refl _ | omega | (simp only [next_push, next_set, next_kill]; omega)))))⟩
  · try simp only [decide_eq_true_eq, decide_eq_false_iff_not, Bool.not_eq_true', Bool.not_eq_false', Bool.and_eq_true, Bool.or_eq_true, Bool.and_eq_false_iff, Bool.or_eq_false_iff, beq_iff_eq, bne_iff_ne, beq_eq_false_iff_ne, bne_eq_false_iff_eq, ne_eq, Decidable.not_not, Bool.decide_eq_true] at h1_
    refine al_gno rfl rfl rfl rfl rfl ?_
    refine al_gno rfl rfl rfl rfl rfl ?_
    refine al_gno rfl rfl rfl rfl rfl ?_
    refine al_opd rfl rfl rfl (ao_pickF rfl (v := .bool _) rfl) ?_
    refine al_opd rfl rfl rfl (ao_as (v := .bool _) rfl) ?_
    refine al_nilT ?_
    refine aw_ret ?_
    refine ends1 rfl (rv_tmp (v := .bool _) rfl) ?_
    exact ⟨bf hb (fun q => by rw [hb1.mpr q.1] at h1_; cases h1_), by (repeat (first | exact Same.refl _ _ | assumption | refine Same.push ?_ (by (first | exact Nat.le_refl _ | omega | (simp only [next_push, next_set, next_kill]; omega))) _ | refine Same.set ?_ (by (first | exact Nat.le_refl _ | omega | (simp only [next_push, next_set, next_kill]; omega))) _ | refine Same.kill ?_ (by (first | exact Nat.le_refl _ | omega | (simp only [next_push, next_set, next_kill]; omega)))))⟩

-- spec.l02File
theorem l02File_c {l : List Spot} {lb c' : Nat} {r : Room} {pb : Nat} {b : Bool} {H : AHeap} (hp : H.blk pb = some (.cells (roomC r) 1)) (hk0 : H.blk lb = some (.cells (fl spot l) 2)) (hcc' : l.length ≤ c') (hn : l.length ≤ 4194304) (hr : okRoom r) (hw : wfRoom r) (hsp : wfSpots l) (hb : b = true ↔ fileOk r l) : ACd Try.prog 85 [.pointer (some ⟨pb, 0, none⟩), .slice (some ⟨lb, 0, none⟩) l.length c'] H (.bool b) (H) := by
  have hh0 : Sl H spot 2 (.slice (some ⟨lb, 0, none⟩) l.length c') l := Sl.full spot_len hk0 rfl rfl rfl
  have hlt0 := AHeap.lt hk0
  obtain ⟨b1, hb1⟩ := exists_bool (chain l)
  refine ac_gc0 (fun β => VR.plainT β (by first | rfl | simp [plainT, plainV, plain1])) (ac_body Try.func85 rfl Try.ntmps85 rfl ?_)
  refine aw_seq ?_
  refine aw_region ?_
  refine al_opd rfl rfl rfl (ao_as (v := .bool _) rfl) ?_
  refine al_nilT ?_
  refine aw_seq ?_
  refine aw_seq ?_
  refine aw_region ?_
  refine al_opd rfl rfl rfl (ao_as (v := .int _ _) rfl) ?_
  refine al_nilT ?_
  refine aw_block ?_
  refine aw_loop (fun (gk : Nat) (fr : AFr) (G : AHeap) => ∃ get : Nat → Value, fr = ⟨21, get⟩ ∧ (∃ i : Nat, i ≤ l.length ∧ gk = l.length - i ∧ H = G ∧ get 0 = .pointer (some ⟨pb, 0, none⟩) ∧ get 1 = .slice (some ⟨lb, 0, none⟩) l.length c' ∧ get 5 = .int .i64 i ∧ ∀ (j : Nat) x, j < i → l[j]? = some x → isFree r x)) (l.length) ⟨_, rfl, ?_⟩ ?_
  · exact ⟨0, Nat.zero_le _, rfl, rfl, rfl, rfl, rfl, fun j x h => by omega⟩
  · rintro gk fr G ⟨get, rfl, i, hi, rfl, rfl, g0, g1, g5, hq⟩
    refine aw_slot (d := 0) (v := .pointer (some ⟨pb, 0, none⟩)) (by first | assumption | rfl) ?_
    refine aw_slot (d := 1) (v := .slice (some ⟨lb, 0, none⟩) l.length c') (by first | assumption | rfl) ?_
    refine aw_slot (d := 5) (v := .int .i64 i) (by first | assumption | rfl) ?_
    refine aw_seq ?_
    refine aw_seq ?_
    refine aw_region ?_
    refine al_opd rfl rfl rfl (ao_mv (v := .int _ _) rfl) ?_
    refine al_opd rfl rfl rfl (ao_mv (v := .slice _ _ _) rfl) ?_
    first | refine al_opd rfl rfl rfl (ao_lenS Try.underlying26 (by rfl)) ?_ | refine al_opd rfl rfl rfl (ao_lenN Try.underlying26 (by rfl)) ?_ | refine al_opd rfl rfl rfl (ao_lenV Try.underlying26 rfl hh0) ?_
    refine al_opd rfl rfl rfl (ao_lss rfl rfl) ?_
    refine al_nilT ?_
    refine aw_cond rfl (fun h1_ => ?_) (fun h1_ => ?_)
    · try simp only [decide_eq_true_eq, decide_eq_false_iff_not, Bool.not_eq_true', Bool.not_eq_false', Bool.and_eq_true, Bool.or_eq_true, Bool.and_eq_false_iff, Bool.or_eq_false_iff, beq_iff_eq, bne_iff_ne, beq_eq_false_iff_ne, bne_eq_false_iff_eq, ne_eq, Decidable.not_not, Bool.decide_eq_true] at h1_
      obtain ⟨x, hx⟩ := get_lt (show i < l.length by omega)
      refine aw_skipT ?_
      refine aw_seq ?_
      refine aw_block ?_
      refine aw_seq ?_
      refine aw_region ?_
      refine al_opd rfl rfl rfl (ao_mv (v := .pointer _) rfl) ?_
      refine al_opd rfl rfl rfl (ao_mv (v := .slice _ _ _) rfl) ?_
      refine al_opd rfl rfl rfl (ao_mv (v := .int _ _) rfl) ?_
      first | refine al_opd rfl rfl rfl (ao_indexAddrS Try.underlying26 Try.sizeOf63 rfl rfl (by first | omega | decide | (simp; omega)) (by first | omega | decide | (simp; omega))) ?_ | refine al_opd rfl rfl rfl (ao_indexV Try.underlying26 Try.sizeOf63 rfl rfl hh0 (by first | omega | decide | (simp; omega)) (by first | omega | decide | (simp; omega))) ?_
      first | refine al_opd rfl rfl rfl (ao_loada Try.isAgg63 Try.sizeOf63 rfl (by ((repeat (first | exact blk_push_new _ _ | assumption | apply blk_push_old | apply blk_set_same | refine (blk_set_ne (by first | assumption | omega | (simp only [next_push, next_set, next_kill, ne_eq]; omega))).trans ?_ | refine (blk_kill_ne (by first | assumption | omega | (simp only [next_push, next_set, next_kill, ne_eq]; omega))).trans ?_)); (first | done | fail))) (by rfl) (by first | rfl | (simp; (first | done | fail)))) ?_ | refine al_opd rfl rfl rfl (ao_loadsV (A := #[.int _ _, .int _ _]) Try.isAgg63 Try.sizeOf63 hh0 rfl hx rfl (by decide)) ?_
      refine al_opd rfl rfl rfl (ao_calld (l01Free_c (r := r) (s := x) (b := freeB r x) (by ((repeat (first | exact blk_push_new _ _ | assumption | apply blk_push_old | apply blk_set_same | refine (blk_set_ne (by first | assumption | omega | (simp only [next_push, next_set, next_kill, ne_eq]; omega))).trans ?_ | refine (blk_kill_ne (by first | assumption | omega | (simp only [next_push, next_set, next_kill, ne_eq]; omega))).trans ?_)); (first | done | fail))) hr hw (hsp i x hx) (freeB_iff r x)) Try.call99 rfl rfl) ?_
      refine al_opd rfl rfl rfl (ao_not rfl) ?_
      refine al_nilT ?_
      refine aw_cond rfl (fun h2_ => ?_) (fun h2_ => ?_)
      · try simp only [decide_eq_true_eq, decide_eq_false_iff_not, Bool.not_eq_true', Bool.not_eq_false', Bool.and_eq_true, Bool.or_eq_true, Bool.and_eq_false_iff, Bool.or_eq_false_iff, beq_iff_eq, bne_iff_ne, beq_eq_false_iff_ne, bne_eq_false_iff_eq, ne_eq, Decidable.not_not, Bool.decide_eq_true] at h2_
        refine aw_seq ?_
        refine aw_region ?_
        refine al_opd rfl rfl rfl (ao_as (v := .bool _) rfl) ?_
        refine al_nilT ?_
        refine aw_ret ?_
        refine blockA_r ?_
        refine thenA_r ?_
        refine thenA_r ?_
        refine blockA_r ?_
        refine thenA_r ?_
        refine ends1 rfl (rv_tmp (v := .bool _) rfl) ?_
        exact ⟨bf hb (fun q => by have := (freeB_iff _ _).mpr (q.2 i x hx); simp_all), by (repeat (first | exact Same.refl _ _ | assumption | refine Same.push ?_ (by (first | exact Nat.le_refl _ | omega | (simp only [next_push, next_set, next_kill]; omega))) _ | refine Same.set ?_ (by (first | exact Nat.le_refl _ | omega | (simp only [next_push, next_set, next_kill]; omega))) _ | refine Same.kill ?_ (by (first | exact Nat.le_refl _ | omega | (simp only [next_push, next_set, next_kill]; omega)))))⟩
      · try simp only [decide_eq_true_eq, decide_eq_false_iff_not, Bool.not_eq_true', Bool.not_eq_false', Bool.and_eq_true, Bool.or_eq_true, Bool.and_eq_false_iff, Bool.or_eq_false_iff, beq_iff_eq, bne_iff_ne, beq_eq_false_iff_ne, bne_eq_false_iff_eq, ne_eq, Decidable.not_not, Bool.decide_eq_true] at h2_
        refine aw_skipB ?_
        refine thenA_n ?_
        refine aw_region ?_
        refine al_opd rfl rfl rfl (ao_mv (v := .int _ _) rfl) ?_
        first | refine al_opd rfl rfl rfl ((ao_add rfl rfl).val (nw_i64 (by first | omega | decide) (by first | omega | decide))) ?_ | refine al_opd rfl rfl rfl (ao_add rfl rfl) ?_
        refine al_opd rfl rfl rfl (ao_as (v := .int _ _) rfl) ?_
        refine al_nilT ?_
        refine ⟨_, ?_, _, rfl, i + 1, by omega, rfl, rfl, rfl, rfl, by rfl, fun j x' hj hx' => ?_⟩
        · omega
        · rcases Nat.lt_or_ge j i with h9 | h9
          · exact hq j x' h9 hx'
          · obtain rfl : j = i := by omega
            rw [hx] at hx'; cases hx'; exact (freeB_iff _ _).mp (by simpa using h2_)
    · try simp only [decide_eq_true_eq, decide_eq_false_iff_not, Bool.not_eq_true', Bool.not_eq_false', Bool.and_eq_true, Bool.or_eq_true, Bool.and_eq_false_iff, Bool.or_eq_false_iff, beq_iff_eq, bne_iff_ne, beq_eq_false_iff_ne, bne_eq_false_iff_eq, ne_eq, Decidable.not_not, Bool.decide_eq_true] at h1_
      refine aw_exit ?_
      refine thenA_x ?_
      refine thenA_x ?_
      refine blockA_hit ?_
      refine thenA_n ?_
      refine aw_seq ?_
      refine aw_region ?_
      refine al_opd rfl rfl rfl (ao_mv (v := .slice _ _ _) rfl) ?_
      refine al_opd rfl rfl rfl (ao_calld (l02Line_c (l := l) (lb := lb) (c' := c') (b := b1) (by ((repeat (first | exact blk_push_new _ _ | assumption | apply blk_push_old | apply blk_set_same | refine (blk_set_ne (by first | assumption | omega | (simp only [next_push, next_set, next_kill, ne_eq]; omega))).trans ?_ | refine (blk_kill_ne (by first | assumption | omega | (simp only [next_push, next_set, next_kill, ne_eq]; omega))).trans ?_)); (first | done | fail))) hcc' hn hb1) Try.call101 rfl rfl) ?_
      refine al_opd rfl rfl rfl (ao_as (v := .bool _) rfl) ?_
      refine al_nilT ?_
      refine aw_ret ?_
      refine ends1 rfl (rv_tmp (v := .bool _) rfl) ?_
      exact ⟨beqv hb ⟨fun e => ⟨hb1.mp e, fun j x hx => hq j x (by have := (List.getElem?_eq_some_iff.mp hx).1; omega) hx⟩, fun q => hb1.mpr q.1⟩, by (repeat (first | exact Same.refl _ _ | assumption | refine Same.push ?_ (by (first | exact Nat.le_refl _ | omega | (simp only [next_push, next_set, next_kill]; omega))) _ | refine Same.set ?_ (by (first | exact Nat.le_refl _ | omega | (simp only [next_push, next_set, next_kill]; omega))) _ | refine Same.kill ?_ (by (first | exact Nat.le_refl _ | omega | (simp only [next_push, next_set, next_kill]; omega)))))⟩

-- spec.l02Ok
theorem l02Ok_c {l : List Spot} {lb c' : Nat} {r : Room} {pb : Nat} {b : Bool} {H : AHeap} (hp : H.blk pb = some (.cells (roomC r) 1)) (hk0 : H.blk lb = some (.cells (fl spot l) 2)) (hcc' : l.length ≤ c') (hn : l.length ≤ 4194304) (hw : wfRoom r) (hsp : wfSpots l) (hb : b = true ↔ okFile r l) : ACd Try.prog 66 [.pointer (some ⟨pb, 0, none⟩), .slice (some ⟨lb, 0, none⟩) l.length c'] H (.bool b) (H) := by
  obtain ⟨b1, hb1⟩ := exists_bool (okRoom r)
  obtain ⟨b2, hb2⟩ := exists_bool (fileOk r l)
  refine ac_gc0 (fun β => VR.plainT β (by first | rfl | simp [plainT, plainV, plain1])) (ac_body Try.func66 rfl Try.ntmps66 rfl ?_)
  refine aw_seq ?_
  refine aw_region ?_
  refine al_opd rfl rfl rfl (ao_as (v := .bool _) rfl) ?_
  refine al_nilT ?_
  refine aw_seq ?_
  refine aw_region ?_
  refine al_opd rfl rfl rfl (ao_mv (v := .pointer _) rfl) ?_
  refine al_opd rfl rfl rfl (ao_calld (l01Ok_c (r := r) (b := b1) (by ((repeat (first | exact blk_push_new _ _ | assumption | apply blk_push_old | apply blk_set_same | refine (blk_set_ne (by first | assumption | omega | (simp only [next_push, next_set, next_kill, ne_eq]; omega))).trans ?_ | refine (blk_kill_ne (by first | assumption | omega | (simp only [next_push, next_set, next_kill, ne_eq]; omega))).trans ?_)); (first | done | fail))) hw hb1) Try.call90 rfl rfl) ?_
  refine al_opd rfl rfl rfl (ao_mv (v := .bool _) rfl) ?_
  refine al_cases (d := 7) rfl (fun h1_ => ?_) (fun h1_ => ?_)
  · try simp only [decide_eq_true_eq, decide_eq_false_iff_not, Bool.not_eq_true', Bool.not_eq_false', Bool.and_eq_true, Bool.or_eq_true, Bool.and_eq_false_iff, Bool.or_eq_false_iff, beq_iff_eq, bne_iff_ne, beq_eq_false_iff_ne, bne_eq_false_iff_eq, ne_eq, Decidable.not_not, Bool.decide_eq_true] at h1_
    refine al_gyes rfl rfl rfl rfl rfl (ao_mv (v := .pointer _) rfl) ?_
    refine al_gyes rfl rfl rfl rfl rfl (ao_mv (v := .slice _ _ _) rfl) ?_
    refine al_gyes rfl rfl rfl rfl rfl (ao_calld (l02File_c (l := l) (lb := lb) (c' := c') (r := r) (b := b2) (by ((repeat (first | exact blk_push_new _ _ | assumption | apply blk_push_old | apply blk_set_same | refine (blk_set_ne (by first | assumption | omega | (simp only [next_push, next_set, next_kill, ne_eq]; omega))).trans ?_ | refine (blk_kill_ne (by first | assumption | omega | (simp only [next_push, next_set, next_kill, ne_eq]; omega))).trans ?_)); (first | done | fail))) (by ((repeat (first | exact blk_push_new _ _ | assumption | apply blk_push_old | apply blk_set_same | refine (blk_set_ne (by first | assumption | omega | (simp only [next_push, next_set, next_kill, ne_eq]; omega))).trans ?_ | refine (blk_kill_ne (by first | assumption | omega | (simp only [next_push, next_set, next_kill, ne_eq]; omega))).trans ?_)); (first | done | fail))) hcc' hn (hb1.mp h1_) hw hsp hb2) Try.call85 rfl rfl) ?_
    refine al_opd rfl rfl rfl (ao_pickT rfl (v := .bool _) rfl) ?_
    refine al_opd rfl rfl rfl (ao_as (v := .bool _) rfl) ?_
    refine al_nilT ?_
    refine aw_ret ?_
    refine ends1 rfl (rv_tmp (v := .bool _) rfl) ?_
    exact ⟨beqv hb ⟨fun e => ⟨hb1.mp h1_, hb2.mp e⟩, fun q => hb2.mpr q.2⟩, by (repeat (first | exact Same.refl _ _ | assumption | refine Same.push ?_ (by (first | exact Nat.le_refl _ | omega | (simp only [next_push, next_set, next_kill]; omega))) _ | refine Same.set ?_ (by (first | exact Nat.le_refl _ | omega | (simp only [next_push, next_set, next_kill]; omega))) _ | refine Same.kill ?_ (by (first | exact Nat.le_refl _ | omega | (simp only [next_push, next_set, next_kill]; omega)))))⟩
  · try simp only [decide_eq_true_eq, decide_eq_false_iff_not, Bool.not_eq_true', Bool.not_eq_false', Bool.and_eq_true, Bool.or_eq_true, Bool.and_eq_false_iff, Bool.or_eq_false_iff, beq_iff_eq, bne_iff_ne, beq_eq_false_iff_ne, bne_eq_false_iff_eq, ne_eq, Decidable.not_not, Bool.decide_eq_true] at h1_
    refine al_gno rfl rfl rfl rfl rfl ?_
    refine al_gno rfl rfl rfl rfl rfl ?_
    refine al_gno rfl rfl rfl rfl rfl ?_
    refine al_opd rfl rfl rfl (ao_pickF rfl (v := .bool _) rfl) ?_
    refine al_opd rfl rfl rfl (ao_as (v := .bool _) rfl) ?_
    refine al_nilT ?_
    refine aw_ret ?_
    refine ends1 rfl (rv_tmp (v := .bool _) rfl) ?_
    exact ⟨bf hb (fun q => by rw [hb1.mpr q.1] at h1_; cases h1_), by (repeat (first | exact Same.refl _ _ | assumption | refine Same.push ?_ (by (first | exact Nat.le_refl _ | omega | (simp only [next_push, next_set, next_kill]; omega))) _ | refine Same.set ?_ (by (first | exact Nat.le_refl _ | omega | (simp only [next_push, next_set, next_kill]; omega))) _ | refine Same.kill ?_ (by (first | exact Nat.le_refl _ | omega | (simp only [next_push, next_set, next_kill]; omega)))))⟩

-- spec.ValidFile
theorem specValidFile_c {l : List Spot} {lb c' : Nat} {r : Room} {b : Bool} {H : AHeap} (hk0 : H.blk lb = some (.cells (fl spot l) 2)) (hcc' : l.length ≤ c') (hn : l.length ≤ 4194304) (hw : wfRoom r) (hsp : wfSpots l) (hb : b = true ↔ okFile r l) : ACd Try.prog 30 [.agg (roomC r).toArray, .slice (some ⟨lb, 0, none⟩) l.length c'] H (.bool b) (H) := by
  refine ac_gc0 (fun β => VR.plainT β (by first | rfl | simp [plainT, plainV, plain1])) (ac_body Try.func30 rfl Try.ntmps30 rfl ?_)
  refine aw_seq ?_
  refine aw_region ?_
  refine al_opd rfl rfl rfl (ao_boxa (by rfl)) ?_
  refine al_opd rfl rfl rfl (ao_as (v := .bool _) rfl) ?_
  refine al_nilT ?_
  refine aw_seq ?_
  refine aw_region ?_
  refine al_opd rfl rfl rfl (ao_mv (v := .slice _ _ _) rfl) ?_
  refine al_opd rfl rfl rfl (ao_calld (l02Ok_c (l := l) (lb := lb) (c' := c') (r := r) (b := b) (by ((repeat (first | exact blk_push_new _ _ | assumption | apply blk_push_old | apply blk_set_same | refine (blk_set_ne (by first | assumption | omega | (simp only [next_push, next_set, next_kill, ne_eq]; omega))).trans ?_ | refine (blk_kill_ne (by first | assumption | omega | (simp only [next_push, next_set, next_kill, ne_eq]; omega))).trans ?_)); (first | done | fail))) (by ((repeat (first | exact blk_push_new _ _ | assumption | apply blk_push_old | apply blk_set_same | refine (blk_set_ne (by first | assumption | omega | (simp only [next_push, next_set, next_kill, ne_eq]; omega))).trans ?_ | refine (blk_kill_ne (by first | assumption | omega | (simp only [next_push, next_set, next_kill, ne_eq]; omega))).trans ?_)); (first | done | fail))) hcc' hn hw hsp hb) Try.call66 rfl rfl) ?_
  refine al_opd rfl rfl rfl (ao_as (v := .bool _) rfl) ?_
  refine al_nilT ?_
  refine aw_ret ?_
  refine ends1 rfl (rv_tmp (v := .bool _) rfl) ?_
  exact ⟨by first | rfl | (simp [*]; (first | done | fail)), by (repeat (first | exact Same.refl _ _ | assumption | refine Same.push ?_ (by (first | exact Nat.le_refl _ | omega | (simp only [next_push, next_set, next_kill]; omega))) _ | refine Same.set ?_ (by (first | exact Nat.le_refl _ | omega | (simp only [next_push, next_set, next_kill]; omega))) _ | refine Same.kill ?_ (by (first | exact Nat.le_refl _ | omega | (simp only [next_push, next_set, next_kill]; omega)))))⟩

end Go.Proofs.Ytokgcdacdmllbaa
