/- Contracts of the program's functions over abstract heaps. -/
import Derived.Test.YtkjmcolnoehjbaaBfs9
import Derived.Test.YtkjmcolnoehjbaaFr2
import Derived.Test.YtkjmcolnoehjbaaNr
namespace Go.Proofs.Ytkjmcolnoehjbaa
open Go Go.AW Go.Proofs
set_option linter.unusedVariables false
set_option linter.unusedSimpArgs false
set_option maxRecDepth 100000
set_option maxHeartbeats 2000000

-- spec.l01Has
theorem l01Has_c {v : Value} {l : List Spot} {x : Spot} {H : AHeap} (hv : Sl H spot 2 v l) (hl : l.length ≤ 1000) : ACd Try.prog 71 [v, .agg #[.int .i8 x.x, .int .i8 x.y]] H (.bool (decide (x ∈ l))) (H) := by
  refine ac_gc0 (fun β => VR.plainT β (by first | rfl | simp [plainT, plainV, plain1])) (ac_body Try.func71 rfl Try.ntmps71 rfl ?_)
  refine aw_seq ?_
  refine aw_region ?_
  refine al_opd rfl rfl rfl (ao_boxa (by rfl)) ?_
  refine al_opd rfl rfl rfl (ao_as (v := .bool _) rfl) ?_
  refine al_nilT ?_
  refine aw_seq ?_
  refine aw_seq ?_
  refine aw_region ?_
  refine al_opd rfl rfl rfl (ao_as (v := .int _ _) rfl) ?_
  refine al_nilT ?_
  refine aw_block ?_
  refine aw_loop (fun (gk : Nat) (fr : AFr) (G : AHeap) => ∃ get : Nat → Value, fr = ⟨18, get⟩ ∧ (∃ i : Nat, i ≤ l.length ∧ gk = l.length - i ∧ G = H.push (.cells [.int .i8 x.x, .int .i8 x.y] 1) ∧ (∀ j : Nat, j < i → l[j]? ≠ some x) ∧ get 0 = v ∧ get 3 = .pointer (some ⟨H.next, 0, none⟩) ∧ get 5 = .int .i64 i)) (l.length) ⟨_, rfl, ?_⟩ ?_
  · exact ⟨0, Nat.zero_le _, rfl, rfl, fun j hj => absurd hj (Nat.not_lt_zero j), rfl, rfl, rfl⟩
  · rintro gk fr G ⟨get, rfl, i, hi, rfl, rfl, hno, g0, g3, g5⟩
    have hs1 : Sl (H.push (.cells [.int .i8 x.x, .int .i8 x.y] 1)) spot 2 v l := hv.mono (by exact SMp)
    refine aw_slot (d := 0) (v := v) (by first | assumption | rfl) ?_
    refine aw_slot (d := 3) (v := .pointer (some ⟨H.next, 0, none⟩)) (by first | assumption | rfl) ?_
    refine aw_slot (d := 5) (v := .int .i64 i) (by first | assumption | rfl) ?_
    refine aw_seq ?_
    refine aw_seq ?_
    refine aw_region ?_
    refine al_opd rfl rfl rfl (ao_mv (v := .int _ _) rfl) ?_
    first | refine al_opd rfl rfl rfl (ao_mv (v := .slice _ _ _) rfl) ?_ | refine al_opd rfl rfl rfl (ao_mv (v := v) rfl) ?_
    first | refine al_opd rfl rfl rfl (ao_lenS Try.underlying40 (by rfl)) ?_ | refine al_opd rfl rfl rfl (ao_lenN Try.underlying40 (by rfl)) ?_ | refine al_opd rfl rfl rfl (ao_lenV Try.underlying40 rfl hs1) ?_
    refine al_opd rfl rfl rfl (ao_lss rfl rfl) ?_
    refine al_nilT ?_
    refine aw_cond rfl (fun h1_ => ?_) (fun h1_ => ?_)
    · try simp only [decide_eq_true_eq, decide_eq_false_iff_not, Bool.not_eq_true', Bool.not_eq_false', Bool.and_eq_true, Bool.or_eq_true, Bool.and_eq_false_iff, Bool.or_eq_false_iff, beq_iff_eq, bne_iff_ne, beq_eq_false_iff_ne, bne_eq_false_iff_eq, ne_eq, Decidable.not_not, Bool.decide_eq_true] at h1_
      obtain ⟨y, hy⟩ := get_lt (show i < l.length by omega)
      refine aw_skipT ?_
      refine aw_seq ?_
      refine aw_block ?_
      refine aw_seq ?_
      refine aw_draw (m := 6) mo (by kernel_rfl) rfl (fun _ _ _ h => h) ?_
      first | refine dw_opd rfl rfl rfl (ao_mv (v := .slice _ _ _) rfl) ?_ | refine dw_opd rfl rfl rfl (ao_mv (v := v) rfl) ?_
      refine dw_opd rfl rfl rfl (ao_mv (v := .int _ _) rfl) ?_
      first | refine dw_opd rfl rfl rfl (ao_indexAddrS Try.underlying40 Try.sizeOf33 rfl rfl (by exact IXp) (by exact IXp)) ?_ | refine dw_opd rfl rfl rfl (ao_indexV Try.underlying40 Try.sizeOf33 rfl rfl hs1 (by exact IXp) (by exact IXp)) ?_
      first | refine dw_opd rfl rfl rfl (ao_loada Try.isAgg33 Try.sizeOf33 rfl (by exact HLp) (by rfl) (by exact RFp)) ?_ | refine dw_opd rfl rfl rfl (ao_loadsV (A := #[.int _ _, .int _ _]) Try.isAgg33 Try.sizeOf33 hs1 rfl hy rfl (by decide)) ?_
      first | refine dw_opd rfl rfl rfl (ao_loada Try.isAgg33 Try.sizeOf33 rfl (by exact HLp) (by rfl) (by exact RFp)) ?_ | refine dw_opd rfl rfl rfl (ao_loadsV (A := #[.int _ _, .int _ _]) Try.isAgg33 Try.sizeOf33 hs1 rfl hy rfl (by decide)) ?_
      refine dw_opd rfl rfl rfl (ao_eqV Try.eqGuardType33 rfl rfl rfl rfl (eqS33 _ _ _ _)) ?_
      refine dw_end ?_
      refine al_nilT ?_
      refine aw_cond rfl (fun h2_ => ?_) (fun h2_ => ?_)
      · try simp only [decide_eq_true_eq, decide_eq_false_iff_not, Bool.not_eq_true', Bool.not_eq_false', Bool.and_eq_true, Bool.or_eq_true, Bool.and_eq_false_iff, Bool.or_eq_false_iff, beq_iff_eq, bne_iff_ne, beq_eq_false_iff_ne, bne_eq_false_iff_eq, ne_eq, Decidable.not_not, Bool.decide_eq_true] at h2_
        refine aw_seq ?_
        refine aw_region ?_
        refine al_opd rfl rfl rfl (ao_as (v := .bool _) rfl) ?_
        refine al_nilT ?_
        refine aw_ret ?_
        refine blockA_r ?_
        refine thenA_r ?_
        refine thenA_r ?_
        refine blockA_r ?_
        refine thenA_r ?_
        refine ends1 rfl (rv_tmp (v := .bool _) rfl) ?_
        exact ⟨by rw [decide_eq_true (by rw [← spot_ext h2_.1 h2_.2]; exact List.mem_of_getElem? hy)], by exact SMp⟩
      · try simp only [decide_eq_true_eq, decide_eq_false_iff_not, Bool.not_eq_true', Bool.not_eq_false', Bool.and_eq_true, Bool.or_eq_true, Bool.and_eq_false_iff, Bool.or_eq_false_iff, beq_iff_eq, bne_iff_ne, beq_eq_false_iff_ne, bne_eq_false_iff_eq, ne_eq, Decidable.not_not, Bool.decide_eq_true] at h2_
        refine aw_skipB ?_
        refine thenA_n ?_
        refine aw_region ?_
        refine al_opd rfl rfl rfl (ao_mv (v := .int _ _) rfl) ?_
        first | refine al_opd rfl rfl rfl ((ao_add rfl rfl).val (nw_i64 BDp BDp)) ?_ | refine al_opd rfl rfl rfl (ao_add rfl rfl) ?_
        refine al_opd rfl rfl rfl (ao_as (v := .int _ _) rfl) ?_
        refine al_nilT ?_
        exact ⟨_, by omega, _, rfl, i + 1, by omega, rfl, rfl, snoc_no hno hy h2_, rfl, rfl, by rfl⟩
    · try simp only [decide_eq_true_eq, decide_eq_false_iff_not, Bool.not_eq_true', Bool.not_eq_false', Bool.and_eq_true, Bool.or_eq_true, Bool.and_eq_false_iff, Bool.or_eq_false_iff, beq_iff_eq, bne_iff_ne, beq_eq_false_iff_ne, bne_eq_false_iff_eq, ne_eq, Decidable.not_not, Bool.decide_eq_true] at h1_
      refine aw_exit ?_
      refine thenA_x ?_
      refine thenA_x ?_
      refine blockA_hit ?_
      refine thenA_n ?_
      refine aw_seq ?_
      refine aw_region ?_
      refine al_opd rfl rfl rfl (ao_as (v := .bool _) rfl) ?_
      refine al_nilT ?_
      refine aw_ret ?_
      refine ends1 rfl (rv_tmp (v := .bool _) rfl) ?_
      have hnm : ¬ x ∈ l := fun hm => (by obtain ⟨j, hj, e⟩ := List.getElem_of_mem hm; exact hno j (by omega) (by rw [List.getElem?_eq_getElem hj, e]))
      exact ⟨by rw [decide_eq_false hnm], by exact SMp⟩

-- spec.l01Parts
theorem l01Parts_c {r : Room} {pb0 : Nat} {H : AHeap} (hp0 : H.blk pb0 = some (.cells (roomC r) 1)) (hr : okRoom r) (hw : wfRoom r) : ACd Try.prog 50 [.pointer (some ⟨pb0, 0, none⟩)] H (partsV H (partsL r)) (H.addP (partsL r)) := by
  have hltp := AHeap.lt hp0
  have hfl : (freeL r).length ≤ 100 := filter_len r (freeB r) hr.2.1 hr.2.2.2.1
  refine ac_gcp (ac_body Try.func50 rfl Try.ntmps50 rfl ?_)
  refine aw_seq ?_
  refine aw_region ?_
  refine al_opd rfl rfl rfl (ao_as (v := .slice _ _ _) rfl) ?_
  refine al_nilT ?_
  refine aw_seq ?_
  refine aw_region ?_
  refine al_opd rfl rfl rfl (ao_lit0 Try.underlying49 Try.sizeOf40 Try.zeroValue40 (by rfl) (by rfl) rfl) ?_
  refine al_opd rfl rfl rfl (ao_as (v := .slice _ _ _) rfl) ?_
  refine al_nilT ?_
  refine aw_seq ?_
  refine aw_region ?_
  refine al_opd rfl rfl rfl (ao_lit0 Try.underlying40 Try.sizeOf33 Try.zeroValue33 (by rfl) (by rfl) rfl) ?_
  refine al_opd rfl rfl rfl (ao_as (v := .slice _ _ _) rfl) ?_
  refine al_nilT ?_
  refine aw_seq ?_
  refine aw_region ?_
  refine al_opd rfl rfl rfl (ao_mv (v := .pointer _) rfl) ?_
  refine al_opd rfl rfl rfl (ao_calld (l01All_c (r := r) (by exact HLp) hr hw) Try.call41 rfl rfl) ?_
  refine al_opd rfl rfl rfl (ao_as (v := .slice _ _ _) rfl) ?_
  refine al_nilT ?_
  refine aw_seq ?_
  refine aw_seq ?_
  refine aw_region ?_
  refine al_opd rfl rfl rfl (ao_as (v := .int _ _) rfl) ?_
  refine al_nilT ?_
  refine aw_block ?_
  refine aw_loop (fun (gk : Nat) (fr : AFr) (G : AHeap) => ∃ get : Nat → Value, fr = ⟨38, get⟩ ∧ (∃ (i ob no co db nd cd : Nat) (bs : List Nat), i ≤ (freeL r).length ∧ gk = (freeL r).length - i ∧ Same H.next H G ∧ G.blk (H.next + 2) = some (.cells (fl spot (freeL r)) 2) ∧ H.next + 3 ≤ G.next ∧ H.next ≤ ob ∧ ob < G.next ∧ ob ≠ H.next + 2 ∧ G.blk ob = some (.cells (slC bs (partsI r i)) 1) ∧ no = (partsI r i).length ∧ no ≤ co ∧ H.next ≤ db ∧ db < G.next ∧ db ≠ H.next + 2 ∧ db ≠ ob ∧ G.blk db = some (.cells (fl spot (partsI r i).flatten) 2) ∧ nd = (partsI r i).flatten.length ∧ nd ≤ cd ∧ PH (H.next + 3) G bs (partsI r i) ∧ (¬ ob ∈ bs) ∧ (¬ db ∈ bs) ∧ get 0 = .pointer (some ⟨pb0, 0, none⟩) ∧ get 3 = .slice (some ⟨ob, 0, none⟩) no co ∧ get 4 = .slice (some ⟨db, 0, none⟩) nd cd ∧ get 5 = .slice (some ⟨H.next + 2, 0, none⟩) (freeL r).length ((freeL r).length + 1) ∧ get 6 = .int .i64 i)) ((freeL r).length) ⟨_, rfl, ?_⟩ ?_
  · refine ⟨0, H.next, 0, 0, H.next + 1, 0, 0, [], Nat.zero_le _, rfl, by exact SMp, by exact HLp, ?_, Nat.le_refl _, ?_, ?_, by exact HLp, rfl, Nat.le_refl _, ?_, ?_, ?_, ?_, by exact HLp, rfl, Nat.le_refl _, PH.nil _ _, by simp, by simp, rfl, rfl, rfl, rfl, rfl⟩ <;> exact LNp
  · rintro gk fr G ⟨get, rfl, i, ob, no, co, db, nd, cd, bs, hi, rfl, hG, hbf, hnx, hob, hlo, hof, hko, hno, hnc, hdb, hld, hdf, hdo, hkd, hnd, hdc, hPH, hbo, hbd, g0, g3, g4, g5, g6⟩
    have hsf : Sl G spot 2 (.slice (some ⟨H.next + 2, 0, none⟩) (freeL r).length ((freeL r).length + 1)) (freeL r) := Sl.full spot_len hbf rfl rfl rfl
    have hpk := parts_ok r i
    have hpl := hpk.len
    have hpf := hpk.flen
    have hp : G.blk pb0 = some (.cells (roomC r) 1) := (hG _ hltp).trans hp0
    refine aw_slot (d := 0) (v := .pointer (some ⟨pb0, 0, none⟩)) (by first | assumption | rfl) ?_
    refine aw_slot (d := 3) (v := .slice (some ⟨ob, 0, none⟩) no co) (by first | assumption | rfl) ?_
    refine aw_slot (d := 4) (v := .slice (some ⟨db, 0, none⟩) nd cd) (by first | assumption | rfl) ?_
    refine aw_slot (d := 5) (v := .slice (some ⟨H.next + 2, 0, none⟩) (freeL r).length ((freeL r).length + 1)) (by first | assumption | rfl) ?_
    refine aw_slot (d := 6) (v := .int .i64 i) (by first | assumption | rfl) ?_
    refine aw_seq ?_
    refine aw_seq ?_
    refine aw_region ?_
    refine al_opd rfl rfl rfl (ao_mv (v := .int _ _) rfl) ?_
    refine al_opd rfl rfl rfl (ao_mv (v := .slice _ _ _) rfl) ?_
    first | refine al_opd rfl rfl rfl (ao_lenS Try.underlying40 (by rfl)) ?_ | refine al_opd rfl rfl rfl (ao_lenN Try.underlying40 (by rfl)) ?_ | refine al_opd rfl rfl rfl (ao_lenV Try.underlying40 rfl hsf) ?_
    refine al_opd rfl rfl rfl (ao_lss rfl rfl) ?_
    refine al_nilT ?_
    refine aw_cond rfl (fun h1_ => ?_) (fun h1_ => ?_)
    · try simp only [decide_eq_true_eq, decide_eq_false_iff_not, Bool.not_eq_true', Bool.not_eq_false', Bool.and_eq_true, Bool.or_eq_true, Bool.and_eq_false_iff, Bool.or_eq_false_iff, beq_iff_eq, bne_iff_ne, beq_eq_false_iff_ne, bne_eq_false_iff_eq, ne_eq, Decidable.not_not, Bool.decide_eq_true] at h1_
      obtain ⟨x, hx⟩ := get_lt (show i < (freeL r).length by omega)
      have hfx := free_at hx
      have hwx := wf_of_free hfx
      have hnl := nearL_le 100 hfx
      refine aw_skipT ?_
      refine aw_seq ?_
      refine aw_block ?_
      refine aw_seq ?_
      refine aw_seq ?_
      refine aw_region ?_
      refine al_opd rfl rfl rfl (ao_mv (v := .slice _ _ _) rfl) ?_
      refine al_opd rfl rfl rfl (ao_mv (v := .slice _ _ _) rfl) ?_
      refine al_opd rfl rfl rfl (ao_mv (v := .int _ _) rfl) ?_
      first | refine al_opd rfl rfl rfl (ao_indexAddrS Try.underlying40 Try.sizeOf33 rfl rfl (by exact IXp) (by exact IXp)) ?_ | refine al_opd rfl rfl rfl (ao_indexV Try.underlying40 Try.sizeOf33 rfl rfl hsf (by exact IXp) (by exact IXp)) ?_
      first | refine al_opd rfl rfl rfl (ao_loada Try.isAgg33 Try.sizeOf33 rfl (by exact HLp) (by rfl) (by exact RFp)) ?_ | refine al_opd rfl rfl rfl (ao_loadsV (A := #[.int _ _, .int _ _]) Try.isAgg33 Try.sizeOf33 hsf rfl hx rfl (by decide)) ?_
      refine al_opd rfl rfl rfl (ao_calld (l01Has_c (l := (partsI r i).flatten) (x := x) (Sl.full spot_len hkd rfl rfl hnd) (by omega)) Try.call71 rfl rfl) ?_
      refine al_nilT ?_
      refine aw_cond rfl (fun h2_ => ?_) (fun h2_ => ?_)
      · try simp only [decide_eq_true_eq, decide_eq_false_iff_not, Bool.not_eq_true', Bool.not_eq_false', Bool.and_eq_true, Bool.or_eq_true, Bool.and_eq_false_iff, Bool.or_eq_false_iff, beq_iff_eq, bne_iff_ne, beq_eq_false_iff_ne, bne_eq_false_iff_eq, ne_eq, Decidable.not_not, Bool.decide_eq_true] at h2_
        refine aw_exit ?_
        refine thenA_x ?_
        refine blockA_hit ?_
        refine thenA_n ?_
        refine aw_region ?_
        refine al_opd rfl rfl rfl (ao_mv (v := .int _ _) rfl) ?_
        first | refine al_opd rfl rfl rfl ((ao_add rfl rfl).val (nw_i64 BDp BDp)) ?_ | refine al_opd rfl rfl rfl (ao_add rfl rfl) ?_
        refine al_opd rfl rfl rfl (ao_as (v := .int _ _) rfl) ?_
        refine al_nilT ?_
        exact ⟨_, by omega, _, rfl, i + 1, ob, no, co, db, nd, cd, bs, by omega, rfl, hG, hbf, hnx, hob, hlo, hof, by rw [parts_yes hx h2_]; exact hko, by rw [parts_yes hx h2_]; exact hno, hnc, hdb, hld, hdf, hdo, by rw [parts_yes hx h2_]; exact hkd, by rw [parts_yes hx h2_]; exact hnd, hdc, by rw [parts_yes hx h2_]; exact hPH, hbo, hbd, rfl, rfl, rfl, rfl, by rfl⟩
      · try simp only [decide_eq_true_eq, decide_eq_false_iff_not, Bool.not_eq_true', Bool.not_eq_false', Bool.and_eq_true, Bool.or_eq_true, Bool.and_eq_false_iff, Bool.or_eq_false_iff, beq_iff_eq, bne_iff_ne, beq_eq_false_iff_ne, bne_eq_false_iff_eq, ne_eq, Decidable.not_not, Bool.decide_eq_true] at h2_
        refine aw_skipT ?_
        refine aw_seq ?_
        refine aw_region ?_
        refine al_opd rfl rfl rfl (ao_mv (v := .pointer _) rfl) ?_
        refine al_opd rfl rfl rfl (ao_mv (v := .slice _ _ _) rfl) ?_
        refine al_opd rfl rfl rfl (ao_mv (v := .int _ _) rfl) ?_
        first | refine al_opd rfl rfl rfl (ao_indexAddrS Try.underlying40 Try.sizeOf33 rfl rfl (by exact IXp) (by exact IXp)) ?_ | refine al_opd rfl rfl rfl (ao_indexV Try.underlying40 Try.sizeOf33 rfl rfl hsf (by exact IXp) (by exact IXp)) ?_
        first | refine al_opd rfl rfl rfl (ao_loada Try.isAgg33 Try.sizeOf33 rfl (by exact HLp) (by rfl) (by exact RFp)) ?_ | refine al_opd rfl rfl rfl (ao_loadsV (A := #[.int _ _, .int _ _]) Try.isAgg33 Try.sizeOf33 hsf rfl hx rfl (by decide)) ?_
        refine al_opd rfl rfl rfl (ao_calld (l01Near_c (r := r) (s := x) (k := 100) (by exact HLp) hr hw hwx hfx) Try.call44 rfl rfl) ?_
        refine al_opd rfl rfl rfl (ao_as (v := .slice _ _ _) rfl) ?_
        refine al_nilT ?_
        refine aw_seq ?_
        refine aw_region ?_
        refine al_opd rfl rfl rfl (ao_mv (v := .slice _ _ _) rfl) ?_
        refine al_opd rfl rfl rfl (ao_mv (v := .slice _ _ _) rfl) ?_
        refine al_opd rfl rfl rfl (ao_appC Try.underlying40 ⟨_, Try.underlying40⟩ elem33 (by rfl) (by rfl) (by exact HLp) (by first | (rw [fl_len spot_len, ← hnd]; omega) | (rw [slC_len hPH.len, ← hno]; omega)) (by first | exact src_all (by exact HLp) (by rfl) (by rfl) | exact src_all (by exact HLp) (by rfl) (fl_len spot_len _)) (by first | rfl | exact spots_one _ | simp [isOne]) (by exact BDp) (by exact BDp)) ?_
        refine al_opd rfl rfl rfl (ao_as (v := .slice _ _ _) rfl) ?_
        refine al_nilT ?_
        refine aw_region ?_
        refine al_opd rfl rfl rfl (ao_mv (v := .slice _ _ _) rfl) ?_
        refine al_opd rfl rfl rfl (ao_mv (v := .slice _ _ _) rfl) ?_
        refine al_opd rfl rfl rfl (ao_lit1 (v := .slice _ _ _) Try.underlying49 Try.sizeOf40 Try.zeroValue40 (by rfl) (by rfl) rfl rfl (by rfl) (by exact RFp)) ?_
        refine al_opd rfl rfl rfl (ao_appC Try.underlying49 ⟨_, Try.underlying49⟩ elem40 (by rfl) (by rfl) (by exact HLp) (by first | (rw [fl_len spot_len, ← hnd]; omega) | (rw [slC_len hPH.len, ← hno]; omega)) (by first | exact src_all (by exact HLp) (by rfl) (by rfl) | exact src_all (by exact HLp) (by rfl) (fl_len spot_len _)) (by first | rfl | exact spots_one _ | simp [isOne]) (by exact BDp) (by exact BDp)) ?_
        refine al_opd rfl rfl rfl (ao_as (v := .slice _ _ _) rfl) ?_
        refine al_nilB ?_
        refine thenA_n ?_
        refine aw_region ?_
        refine al_opd rfl rfl rfl (ao_mv (v := .int _ _) rfl) ?_
        first | refine al_opd rfl rfl rfl ((ao_add rfl rfl).val (nw_i64 BDp BDp)) ?_ | refine al_opd rfl rfl rfl (ao_add rfl rfl) ?_
        refine al_opd rfl rfl rfl (ao_as (v := .int _ _) rfl) ?_
        refine al_nilT ?_
        have hpb : ¬ G.next ∈ bs := hPH.nx (Nat.le_refl _)
        have hP1 := (((((((hPH.push (.cells (fl spot (nearL r x 100)) 2)).add (b := G.next) hpb (by omega) (blk_push_new _ _)).kill (not_snoc hbd (by omega))).push (.cells (fl spot (partsI r i).flatten ++ fl spot (nearL r x 100)) 2)).push (.cells [slV G.next (nearL r x 100)] 1)).kill (not_snoc hbo (by omega))).push (.cells (slC bs (partsI r i) ++ [slV G.next (nearL r x 100)]) 1))
        refine ⟨_, ?_, _, rfl, i + 1, _, no + 1, _, _, nd + (nearL r x 100).length, _, bs ++ [G.next], by omega, rfl, by exact SMp, by exact HLp, ?_, ?_, ?_, ?_, by rw [parts_no hx h2_, slC_snoc hPH.len]; exact (by exact HLp), by rw [parts_no hx h2_, List.length_append, ← hno]; rfl, Nat.le_succ _, ?_, ?_, ?_, ?_, by rw [parts_flat hx h2_, fl_app]; exact (by exact HLp), by rw [parts_flat hx h2_, List.length_append, ← hnd], Nat.le_succ _, by rw [parts_no hx h2_]; exact hP1, ?_, ?_, rfl, rfl, rfl, rfl, by rfl⟩
        · omega
        · exact LNp
        · exact LNp
        · exact LNp
        · exact LNp
        · exact LNp
        · exact LNp
        · exact LNp
        · exact LNp
        · exact not_snoc (hPH.nx (by exact LNp)) (by exact LNp)
        · exact not_snoc (hPH.nx (by exact LNp)) (by exact LNp)
    · try simp only [decide_eq_true_eq, decide_eq_false_iff_not, Bool.not_eq_true', Bool.not_eq_false', Bool.and_eq_true, Bool.or_eq_true, Bool.and_eq_false_iff, Bool.or_eq_false_iff, beq_iff_eq, bne_iff_ne, beq_eq_false_iff_ne, bne_eq_false_iff_eq, ne_eq, Decidable.not_not, Bool.decide_eq_true] at h1_
      refine aw_exit ?_
      refine thenA_x ?_
      refine thenA_x ?_
      refine blockA_hit ?_
      refine thenA_n ?_
      refine aw_seq ?_
      refine aw_region ?_
      refine al_opd rfl rfl rfl (ao_mv (v := .slice _ _ _) rfl) ?_
      refine al_opd rfl rfl rfl (ao_as (v := .slice _ _ _) rfl) ?_
      refine al_nilT ?_
      refine aw_ret ?_
      refine ends1 rfl (rv_tmp (v := .slice _ _ _) rfl) ?_
      rw [parts_end (by omega)] at hko hno hPH
      exact ⟨hG, bs, hPH.weak (by omega), ob, co, by omega, hlo, hbo, by omega, by rw [hno], hko⟩

end Go.Proofs.Ytkjmcolnoehjbaa
