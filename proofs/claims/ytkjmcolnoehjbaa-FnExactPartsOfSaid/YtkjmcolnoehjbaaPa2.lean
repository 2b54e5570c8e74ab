/- Contracts of the program's functions over abstract heaps. -/
import Derived.Test.YtkjmcolnoehjbaaBfs9
import Derived.Test.YtkjmcolnoehjbaaFr2
import Derived.Test.YtkjmcolnoehjbaaSt
import Derived.Test.YtkjmcolnoehjbaaNr
namespace Go.Proofs.Ytkjmcolnoehjbaa
open Go Go.AW Go.Proofs
set_option linter.unusedVariables false
set_option linter.unusedSimpArgs false
set_option maxRecDepth 100000
set_option maxHeartbeats 2000000

-- (impl.Room).parts
theorem implParts_c {r : Room} {H : AHeap} (hr : okRoom r) (hw : wfRoom r) : ACd Try.prog 53 [.agg (roomC r).toArray] H (partsV H (partsL r)) (H.addP (partsL r)) := by
  have hfl : (freeL r).length ≤ 100 := filter_len r (freeB r) hr.2.1 hr.2.2.2.1
  refine ac_gcp (ac_body Try.func53 rfl Try.ntmps53 rfl ?_)
  refine aw_seq ?_
  refine aw_region ?_
  refine al_opd rfl rfl rfl (ao_boxa (by rfl)) ?_
  refine al_opd rfl rfl rfl (ao_as (v := .slice _ _ _) rfl) ?_
  refine al_nilT ?_
  refine aw_seq ?_
  refine aw_region ?_
  refine al_opd rfl rfl rfl (ao_lit0 Try.underlying49 Try.sizeOf40 Try.zeroValue40 (by rfl) (by rfl) rfl) ?_
  refine al_opd rfl rfl rfl (ao_makeMap) ?_
  refine al_opd rfl rfl rfl (ao_as (v := .slice _ _ _) rfl) ?_
  refine al_opd rfl rfl rfl (ao_as (v := .map _) rfl) ?_
  refine al_nilT ?_
  refine aw_seq ?_
  refine aw_seq ?_
  refine aw_region ?_
  first | refine al_opd rfl rfl rfl (ao_loada Try.isAgg31 Try.sizeOf31 rfl (by exact HLp) (by rfl) (by exact RFp)) ?_ | refine al_opd rfl rfl rfl (ao_loadsV (A := #[.int _ _, .int _ _, .int _ _, .int _ _, .int _ _, .int _ _, .int _ _, .int _ _, .int _ _, .int _ _, .int _ _, .int _ _]) Try.isAgg31 Try.sizeOf31 hsf rfl hx rfl (by decide)) ?_ | refine al_opd rfl rfl rfl (ao_loadsV (A := #[.int _ _, .int _ _, .int _ _, .int _ _, .int _ _, .int _ _, .int _ _, .int _ _, .int _ _, .int _ _, .int _ _, .int _ _]) Try.isAgg31 Try.sizeOf31 hsf rfl hy rfl (by decide)) ?_ | refine al_opd rfl rfl rfl (ao_loadsV (A := #[.int _ _, .int _ _, .int _ _, .int _ _, .int _ _, .int _ _, .int _ _, .int _ _, .int _ _, .int _ _, .int _ _, .int _ _]) Try.isAgg31 Try.sizeOf31 hsp rfl hx rfl (by decide)) ?_ | refine al_opd rfl rfl rfl (ao_loadsV (A := #[.int _ _, .int _ _, .int _ _, .int _ _, .int _ _, .int _ _, .int _ _, .int _ _, .int _ _, .int _ _, .int _ _, .int _ _]) Try.isAgg31 Try.sizeOf31 hsp rfl hy rfl (by decide)) ?_
  refine al_opd rfl rfl rfl (ao_calld (implFreeL_c (r := r) hr hw) Try.call42 rfl rfl) ?_
  first | refine al_opd rfl rfl rfl (ao_lenS Try.underlying40 (by rfl)) ?_ | refine al_opd rfl rfl rfl (ao_lenN Try.underlying40 (by rfl)) ?_ | refine al_opd rfl rfl rfl (ao_lenV Try.underlying40 rfl hsf) ?_ | refine al_opd rfl rfl rfl (ao_lenV Try.underlying40 rfl hsp) ?_
  refine al_opd rfl rfl rfl (ao_mv (v := .int _ _) rfl) ?_
  refine al_nilT ?_
  refine aw_block ?_
  refine aw_loop (fun (gk : Nat) (fr : AFr) (G : AHeap) => ∃ get : Nat → Value, fr = ⟨40, get⟩ ∧ (∃ (i ob no co : Nat) (bs : List Nat), i ≤ (freeL r).length ∧ gk = (freeL r).length - i ∧ H.next + 1 ≤ ob ∧ ob ≠ H.next + 2 ∧ ob ≠ H.next + 3 ∧ no = (partsI r i).length ∧ no ≤ co ∧ (¬ ob ∈ bs) ∧ Same H.next H G ∧ G.blk H.next = some (.cells (roomC r) 1) ∧ G.blk (H.next + 2) = some (mapT (partsI r i).flatten) ∧ G.blk (H.next + 3) = some (.cells (fl spot (freeL r)) 2) ∧ H.next + 4 ≤ G.next ∧ ob < G.next ∧ G.blk ob = some (.cells (slC bs (partsI r i)) 1) ∧ PH (H.next + 4) G bs (partsI r i) ∧ get 1 = .pointer (some ⟨H.next, 0, none⟩) ∧ get 3 = .slice (some ⟨ob, 0, none⟩) no co ∧ get 4 = .map (some (H.next + 2)) ∧ get 13 = .slice (some ⟨H.next + 3, 0, none⟩) (freeL r).length ((freeL r).length + 1) ∧ get 14 = .int .i64 (freeL r).length ∧ get 15 = .int .i64 i)) ((freeL r).length) ⟨_, rfl, ?_⟩ ?_
  · refine ⟨0, H.next + 1, 0, 0, [], Nat.zero_le _, rfl, Nat.le_refl _, ?_, ?_, rfl, Nat.le_refl _, by simp, by exact SMp, by exact HLp, by exact HLp, by exact HLp, ?_, ?_, by exact HLp, PH.nil _ _, rfl, rfl, rfl, rfl, rfl, rfl⟩ <;> exact LNp
  · rintro gk fr G ⟨get, rfl, i, ob, no, co, bs, hi, rfl, hob, hof, hof3, hno, hnc, hbo, hG, hbr, hbm, hbf, hnx, hlo, hko, hPH, g1, g3, g4, g13, g14, g15⟩
    have hsf : Sl G spot 2 (.slice (some ⟨H.next + 3, 0, none⟩) (freeL r).length ((freeL r).length + 1)) (freeL r) := Sl.full spot_len hbf rfl rfl rfl
    have hpk := parts_ok r i
    have hpl := hpk.len
    have hpf := hpk.flen
    refine aw_slot (d := 1) (v := .pointer (some ⟨H.next, 0, none⟩)) (by first | assumption | rfl) ?_
    refine aw_slot (d := 3) (v := .slice (some ⟨ob, 0, none⟩) no co) (by first | assumption | rfl) ?_
    refine aw_slot (d := 4) (v := .map (some (H.next + 2))) (by first | assumption | rfl) ?_
    refine aw_slot (d := 13) (v := .slice (some ⟨H.next + 3, 0, none⟩) (freeL r).length ((freeL r).length + 1)) (by first | assumption | rfl) ?_
    refine aw_slot (d := 14) (v := .int .i64 (freeL r).length) (by first | assumption | rfl) ?_
    refine aw_slot (d := 15) (v := .int .i64 i) (by first | assumption | rfl) ?_
    refine aw_seq ?_
    refine aw_region ?_
    refine al_opd rfl rfl rfl (ao_lss rfl rfl) ?_
    refine al_nilT ?_
    refine aw_seq ?_
    refine aw_cond rfl (fun h1_ => ?_) (fun h1_ => ?_)
    · try simp only [decide_eq_true_eq, decide_eq_false_iff_not, Bool.not_eq_true', Bool.not_eq_false', Bool.and_eq_true, Bool.or_eq_true, Bool.and_eq_false_iff, Bool.or_eq_false_iff, beq_iff_eq, bne_iff_ne, beq_eq_false_iff_ne, bne_eq_false_iff_eq, ne_eq, Decidable.not_not, Bool.decide_eq_true] at h1_
      obtain ⟨x, hx⟩ := get_lt (show i < (freeL r).length by omega)
      have hfx := free_at hx
      have hwx := wf_of_free hfx
      have hnl := nearL_le 100 hfx
      refine aw_skipT ?_
      refine aw_seq ?_
      refine aw_block ?_
      refine aw_seq ?_
      refine aw_region ?_
      first | refine al_opd rfl rfl rfl (ao_indexAddrS Try.underlying40 Try.sizeOf33 rfl rfl (by exact IXp) (by exact IXp)) ?_ | refine al_opd rfl rfl rfl (ao_indexV Try.underlying40 Try.sizeOf33 rfl rfl hsf (by exact IXp) (by exact IXp)) ?_ | refine al_opd rfl rfl rfl (ao_indexV Try.underlying40 Try.sizeOf33 rfl rfl hsp (by exact IXp) (by exact IXp)) ?_
      first | refine al_opd rfl rfl rfl (ao_loada Try.isAgg33 Try.sizeOf33 rfl (by exact HLp) (by rfl) (by exact RFp)) ?_ | refine al_opd rfl rfl rfl (ao_loadsV (A := #[.int _ _, .int _ _]) Try.isAgg33 Try.sizeOf33 hsf rfl hx rfl (by decide)) ?_ | refine al_opd rfl rfl rfl (ao_loadsV (A := #[.int _ _, .int _ _]) Try.isAgg33 Try.sizeOf33 hsf rfl hy rfl (by decide)) ?_ | refine al_opd rfl rfl rfl (ao_loadsV (A := #[.int _ _, .int _ _]) Try.isAgg33 Try.sizeOf33 hsp rfl hx rfl (by decide)) ?_ | refine al_opd rfl rfl rfl (ao_loadsV (A := #[.int _ _, .int _ _]) Try.isAgg33 Try.sizeOf33 hsp rfl hy rfl (by decide)) ?_
      refine al_opd rfl rfl rfl (ao_alloca (zv33) (by rfl)) ?_
      first | refine al_opd rfl rfl rfl ((ao_storeL Try.sizeOf33 (by rfl) (by rfl) (by exact HLp) (by exact RFp) (by exact RFp) (by exact RFp)).to (SetR.eq (by exact SRp))) ?_ | refine al_opd rfl rfl rfl ((ao_storeP (ds := [.int _ _, .int _ _]) Try.sizeOf33 (by rfl) (by rfl) (by exact HLp) (by exact RFp) (by exact RFp) (by exact LTp)).to (SetR.eq (by exact SRp))) ?_
      refine al_nilT ?_
      refine aw_seq ?_
      refine aw_seq ?_
      refine aw_region ?_
      refine al_opd rfl rfl rfl (ao_mv (v := .map _) rfl) ?_
      first | refine al_opd rfl rfl rfl (ao_loada Try.isAgg33 Try.sizeOf33 rfl (by exact HLp) (by rfl) (by exact RFp)) ?_ | refine al_opd rfl rfl rfl (ao_loadsV (A := #[.int _ _, .int _ _]) Try.isAgg33 Try.sizeOf33 hsf rfl hx rfl (by decide)) ?_ | refine al_opd rfl rfl rfl (ao_loadsV (A := #[.int _ _, .int _ _]) Try.isAgg33 Try.sizeOf33 hsf rfl hy rfl (by decide)) ?_ | refine al_opd rfl rfl rfl (ao_loadsV (A := #[.int _ _, .int _ _]) Try.isAgg33 Try.sizeOf33 hsp rfl hx rfl (by decide)) ?_ | refine al_opd rfl rfl rfl (ao_loadsV (A := #[.int _ _, .int _ _]) Try.isAgg33 Try.sizeOf33 hsp rfl hy rfl (by decide)) ?_
      refine al_opd rfl rfl rfl (ao_look1 (m := trM (partsI r i).flatten) (k := x) (ok := decide (x ∈ (partsI r i).flatten)) (u := .bool (decide (x ∈ (partsI r i).flatten))) (ke := spV) (ve := bV) Try.underlying92 keySpot_c (fun _ => rfl) Try.zeroValue4 (by rfl) (by rfl) (by rfl) (by exact HLp) (look_tr _ _)) ?_
      refine al_nilT ?_
      refine aw_cond rfl (fun h2_ => ?_) (fun h2_ => ?_)
      · try simp only [decide_eq_true_eq, decide_eq_false_iff_not, Bool.not_eq_true', Bool.not_eq_false', Bool.and_eq_true, Bool.or_eq_true, Bool.and_eq_false_iff, Bool.or_eq_false_iff, beq_iff_eq, bne_iff_ne, beq_eq_false_iff_ne, bne_eq_false_iff_eq, ne_eq, Decidable.not_not, Bool.decide_eq_true] at h2_
        have hmem : x ∈ (partsI r i).flatten := h2_
        refine aw_exit ?_
        refine thenA_x ?_
        refine blockA_hit ?_
        refine thenA_n ?_
        refine aw_region ?_
        first | refine al_opd rfl rfl rfl ((ao_add rfl rfl).val (nw_i64 BDp BDp)) ?_ | refine al_opd rfl rfl rfl (ao_add rfl rfl) ?_
        refine al_opd rfl rfl rfl (ao_mv (v := .int _ _) rfl) ?_
        refine al_nilT ?_
        exact ⟨_, by omega, _, rfl, i + 1, ob, no, co, bs, by omega, rfl, hob, hof, hof3, by rw [parts_yes hx hmem]; exact hno, hnc, hbo, by exact SMp, by exact HLp, by rw [parts_yes hx hmem]; exact (by exact HLp), by exact HLp, (by exact LNp), (by exact LNp), by rw [parts_yes hx hmem]; exact (by exact HLp), by rw [parts_yes hx hmem]; exact hPH.push _, rfl, rfl, rfl, rfl, rfl, by rfl⟩
      · try simp only [decide_eq_true_eq, decide_eq_false_iff_not, Bool.not_eq_true', Bool.not_eq_false', Bool.and_eq_true, Bool.or_eq_true, Bool.and_eq_false_iff, Bool.or_eq_false_iff, beq_iff_eq, bne_iff_ne, beq_eq_false_iff_ne, bne_eq_false_iff_eq, ne_eq, Decidable.not_not, Bool.decide_eq_true] at h2_
        have hnm : ¬ x ∈ (partsI r i).flatten := h2_
        refine aw_skipT ?_
        refine aw_seq ?_
        refine aw_region ?_
        first | refine al_opd rfl rfl rfl (ao_loada Try.isAgg31 Try.sizeOf31 rfl (by exact HLp) (by rfl) (by exact RFp)) ?_ | refine al_opd rfl rfl rfl (ao_loadsV (A := #[.int _ _, .int _ _, .int _ _, .int _ _, .int _ _, .int _ _, .int _ _, .int _ _, .int _ _, .int _ _, .int _ _, .int _ _]) Try.isAgg31 Try.sizeOf31 hsf rfl hx rfl (by decide)) ?_ | refine al_opd rfl rfl rfl (ao_loadsV (A := #[.int _ _, .int _ _, .int _ _, .int _ _, .int _ _, .int _ _, .int _ _, .int _ _, .int _ _, .int _ _, .int _ _, .int _ _]) Try.isAgg31 Try.sizeOf31 hsf rfl hy rfl (by decide)) ?_ | refine al_opd rfl rfl rfl (ao_loadsV (A := #[.int _ _, .int _ _, .int _ _, .int _ _, .int _ _, .int _ _, .int _ _, .int _ _, .int _ _, .int _ _, .int _ _, .int _ _]) Try.isAgg31 Try.sizeOf31 hsp rfl hx rfl (by decide)) ?_ | refine al_opd rfl rfl rfl (ao_loadsV (A := #[.int _ _, .int _ _, .int _ _, .int _ _, .int _ _, .int _ _, .int _ _, .int _ _, .int _ _, .int _ _, .int _ _, .int _ _]) Try.isAgg31 Try.sizeOf31 hsp rfl hy rfl (by decide)) ?_
        first | refine al_opd rfl rfl rfl (ao_loada Try.isAgg33 Try.sizeOf33 rfl (by exact HLp) (by rfl) (by exact RFp)) ?_ | refine al_opd rfl rfl rfl (ao_loadsV (A := #[.int _ _, .int _ _]) Try.isAgg33 Try.sizeOf33 hsf rfl hx rfl (by decide)) ?_ | refine al_opd rfl rfl rfl (ao_loadsV (A := #[.int _ _, .int _ _]) Try.isAgg33 Try.sizeOf33 hsf rfl hy rfl (by decide)) ?_ | refine al_opd rfl rfl rfl (ao_loadsV (A := #[.int _ _, .int _ _]) Try.isAgg33 Try.sizeOf33 hsp rfl hx rfl (by decide)) ?_ | refine al_opd rfl rfl rfl (ao_loadsV (A := #[.int _ _, .int _ _]) Try.isAgg33 Try.sizeOf33 hsp rfl hy rfl (by decide)) ?_
        refine al_opd rfl rfl rfl (ao_calld (implNear_c (r := r) (s := x) (k := 100) hr hw hwx hfx) Try.call45 rfl rfl) ?_
        refine al_opd rfl rfl rfl (ao_as (v := .slice _ _ _) rfl) ?_
        refine al_nilT ?_
        refine aw_seq ?_
        refine aw_seq ?_
        refine aw_region ?_
        refine al_opd rfl rfl rfl (ao_mv (v := .slice _ _ _) rfl) ?_
        first | refine al_opd rfl rfl rfl (ao_lenS Try.underlying40 (by rfl)) ?_ | refine al_opd rfl rfl rfl (ao_lenN Try.underlying40 (by rfl)) ?_ | refine al_opd rfl rfl rfl (ao_lenV Try.underlying40 rfl hsf) ?_ | refine al_opd rfl rfl rfl (ao_lenV Try.underlying40 rfl hsp) ?_
        refine al_opd rfl rfl rfl (ao_mv (v := .int _ _) rfl) ?_
        refine al_nilT ?_
        refine aw_block ?_
        refine aw_loop (fun (gk : Nat) (fr : AFr) (G : AHeap) => ∃ get : Nat → Value, fr = ⟨40, get⟩ ∧ (∃ (k pb : Nat), k ≤ (nearL r x 100).length ∧ gk = (nearL r x 100).length - k ∧ H.next + 4 ≤ pb ∧ pb < G.next ∧ pb ≠ ob ∧ (¬ pb ∈ bs) ∧ G.blk pb = some (.cells (fl spot (nearL r x 100)) 2) ∧ Same H.next H G ∧ G.blk H.next = some (.cells (roomC r) 1) ∧ G.blk (H.next + 2) = some (mapT ((partsI r i).flatten ++ (nearL r x 100).take k)) ∧ G.blk (H.next + 3) = some (.cells (fl spot (freeL r)) 2) ∧ H.next + 4 ≤ G.next ∧ ob < G.next ∧ G.blk ob = some (.cells (slC bs (partsI r i)) 1) ∧ PH (H.next + 4) G bs (partsI r i) ∧ get 1 = .pointer (some ⟨H.next, 0, none⟩) ∧ get 3 = .slice (some ⟨ob, 0, none⟩) no co ∧ get 4 = .map (some (H.next + 2)) ∧ get 13 = .slice (some ⟨H.next + 3, 0, none⟩) (freeL r).length ((freeL r).length + 1) ∧ get 14 = .int .i64 (freeL r).length ∧ get 15 = .int .i64 i ∧ get 7 = .slice (some ⟨pb, 0, none⟩) (nearL r x 100).length ((nearL r x 100).length + 1) ∧ get 25 = .slice (some ⟨pb, 0, none⟩) (nearL r x 100).length ((nearL r x 100).length + 1) ∧ get 26 = .int .i64 (nearL r x 100).length ∧ get 27 = .int .i64 k)) ((nearL r x 100).length) ⟨_, rfl, ?_⟩ ?_
        · refine ⟨0, _, Nat.zero_le _, rfl, ?_, ?_, ?_, ?_, by exact HLp, by exact SMp, by exact HLp, by rw [List.take_zero, List.append_nil]; exact (by exact HLp), by exact HLp, ?_, ?_, by exact HLp, (hPH.push _).push _, rfl, rfl, rfl, rfl, rfl, rfl, rfl, rfl, rfl, rfl⟩ <;> (first | (exact (hPH.push _).nx (by omega)) | (exact hPH.nx (by exact LNp)) | omega | (simp only [next_push, next_set, next_kill]; omega))
        · rintro gk fr G ⟨get, rfl, k, pb, hk, rfl, hpb, hlp, hpo, hbp, hkp, hG, hbr, hbm, hbf, hnx, hlo, hko, hPH2, g1, g3, g4, g13, g14, g15, g7, g25, g26, g27⟩
          have hsp : Sl G spot 2 (.slice (some ⟨pb, 0, none⟩) (nearL r x 100).length ((nearL r x 100).length + 1)) (nearL r x 100) := Sl.full spot_len hkp rfl rfl rfl
          refine aw_slot (d := 1) (v := .pointer (some ⟨H.next, 0, none⟩)) (by first | assumption | rfl) ?_
          refine aw_slot (d := 3) (v := .slice (some ⟨ob, 0, none⟩) no co) (by first | assumption | rfl) ?_
          refine aw_slot (d := 4) (v := .map (some (H.next + 2))) (by first | assumption | rfl) ?_
          refine aw_slot (d := 13) (v := .slice (some ⟨H.next + 3, 0, none⟩) (freeL r).length ((freeL r).length + 1)) (by first | assumption | rfl) ?_
          refine aw_slot (d := 14) (v := .int .i64 (freeL r).length) (by first | assumption | rfl) ?_
          refine aw_slot (d := 15) (v := .int .i64 i) (by first | assumption | rfl) ?_
          refine aw_slot (d := 7) (v := .slice (some ⟨pb, 0, none⟩) (nearL r x 100).length ((nearL r x 100).length + 1)) (by first | assumption | rfl) ?_
          refine aw_slot (d := 25) (v := .slice (some ⟨pb, 0, none⟩) (nearL r x 100).length ((nearL r x 100).length + 1)) (by first | assumption | rfl) ?_
          refine aw_slot (d := 26) (v := .int .i64 (nearL r x 100).length) (by first | assumption | rfl) ?_
          refine aw_slot (d := 27) (v := .int .i64 k) (by first | assumption | rfl) ?_
          refine aw_seq ?_
          refine aw_region ?_
          refine al_opd rfl rfl rfl (ao_lss rfl rfl) ?_
          refine al_nilT ?_
          refine aw_seq ?_
          refine aw_cond rfl (fun h3_ => ?_) (fun h3_ => ?_)
          · try simp only [decide_eq_true_eq, decide_eq_false_iff_not, Bool.not_eq_true', Bool.not_eq_false', Bool.and_eq_true, Bool.or_eq_true, Bool.and_eq_false_iff, Bool.or_eq_false_iff, beq_iff_eq, bne_iff_ne, beq_eq_false_iff_ne, bne_eq_false_iff_eq, ne_eq, Decidable.not_not, Bool.decide_eq_true] at h3_
            obtain ⟨y, hy⟩ := get_lt (show k < (nearL r x 100).length by omega)
            refine aw_skipT ?_
            refine aw_seq ?_
            refine aw_block ?_
            refine aw_seq ?_
            refine aw_region ?_
            first | refine al_opd rfl rfl rfl (ao_indexAddrS Try.underlying40 Try.sizeOf33 rfl rfl (by exact IXp) (by exact IXp)) ?_ | refine al_opd rfl rfl rfl (ao_indexV Try.underlying40 Try.sizeOf33 rfl rfl hsf (by exact IXp) (by exact IXp)) ?_ | refine al_opd rfl rfl rfl (ao_indexV Try.underlying40 Try.sizeOf33 rfl rfl hsp (by exact IXp) (by exact IXp)) ?_
            first | refine al_opd rfl rfl rfl (ao_loada Try.isAgg33 Try.sizeOf33 rfl (by exact HLp) (by rfl) (by exact RFp)) ?_ | refine al_opd rfl rfl rfl (ao_loadsV (A := #[.int _ _, .int _ _]) Try.isAgg33 Try.sizeOf33 hsf rfl hx rfl (by decide)) ?_ | refine al_opd rfl rfl rfl (ao_loadsV (A := #[.int _ _, .int _ _]) Try.isAgg33 Try.sizeOf33 hsf rfl hy rfl (by decide)) ?_ | refine al_opd rfl rfl rfl (ao_loadsV (A := #[.int _ _, .int _ _]) Try.isAgg33 Try.sizeOf33 hsp rfl hx rfl (by decide)) ?_ | refine al_opd rfl rfl rfl (ao_loadsV (A := #[.int _ _, .int _ _]) Try.isAgg33 Try.sizeOf33 hsp rfl hy rfl (by decide)) ?_
            refine al_opd rfl rfl rfl (ao_alloca (zv33) (by rfl)) ?_
            first | refine al_opd rfl rfl rfl ((ao_storeL Try.sizeOf33 (by rfl) (by rfl) (by exact HLp) (by exact RFp) (by exact RFp) (by exact RFp)).to (SetR.eq (by exact SRp))) ?_ | refine al_opd rfl rfl rfl ((ao_storeP (ds := [.int _ _, .int _ _]) Try.sizeOf33 (by rfl) (by rfl) (by exact HLp) (by exact RFp) (by exact RFp) (by exact LTp)).to (SetR.eq (by exact SRp))) ?_
            refine al_nilT ?_
            refine aw_region ?_
            refine al_opd rfl rfl rfl (ao_mv (v := .map _) rfl) ?_
            first | refine al_opd rfl rfl rfl (ao_loada Try.isAgg33 Try.sizeOf33 rfl (by exact HLp) (by rfl) (by exact RFp)) ?_ | refine al_opd rfl rfl rfl (ao_loadsV (A := #[.int _ _, .int _ _]) Try.isAgg33 Try.sizeOf33 hsf rfl hx rfl (by decide)) ?_ | refine al_opd rfl rfl rfl (ao_loadsV (A := #[.int _ _, .int _ _]) Try.isAgg33 Try.sizeOf33 hsf rfl hy rfl (by decide)) ?_ | refine al_opd rfl rfl rfl (ao_loadsV (A := #[.int _ _, .int _ _]) Try.isAgg33 Try.sizeOf33 hsp rfl hx rfl (by decide)) ?_ | refine al_opd rfl rfl rfl (ao_loadsV (A := #[.int _ _, .int _ _]) Try.isAgg33 Try.sizeOf33 hsp rfl hy rfl (by decide)) ?_
            refine al_opd rfl rfl rfl (ao_mapPut (m := trM ((partsI r i).flatten ++ (nearL r x 100).take k)) (k := y) (v := true) (ke := spV) (ve := bV) Try.underlying92 keySpot_c (fun _ => rfl) (by rfl) (by rfl) (by rfl) (by exact HLp) (tr_no (new_at hx hnm hy))) ?_
            refine al_nilB ?_
            refine thenA_n ?_
            refine aw_region ?_
            first | refine al_opd rfl rfl rfl ((ao_add rfl rfl).val (nw_i64 BDp BDp)) ?_ | refine al_opd rfl rfl rfl (ao_add rfl rfl) ?_
            refine al_opd rfl rfl rfl (ao_mv (v := .int _ _) rfl) ?_
            refine al_nilT ?_
            exact ⟨_, by omega, _, rfl, k + 1, pb, by omega, rfl, hpb, (by exact LNp), hpo, hbp, by exact HLp, by exact SMp, by exact HLp, by rw [tr_take hy]; exact (by exact HLp), by exact HLp, (by exact LNp), (by exact LNp), by exact HLp, (hPH2.push _).set (hPH2.lo (by omega)), rfl, rfl, rfl, rfl, rfl, rfl, rfl, rfl, rfl, by rfl⟩
          · try simp only [decide_eq_true_eq, decide_eq_false_iff_not, Bool.not_eq_true', Bool.not_eq_false', Bool.and_eq_true, Bool.or_eq_true, Bool.and_eq_false_iff, Bool.or_eq_false_iff, beq_iff_eq, bne_iff_ne, beq_eq_false_iff_ne, bne_eq_false_iff_eq, ne_eq, Decidable.not_not, Bool.decide_eq_true] at h3_
            rw [List.take_of_length_le (show (nearL r x 100).length ≤ k by omega)] at hbm
            refine aw_exit ?_
            refine thenA_x ?_
            refine thenA_x ?_
            refine blockA_hit ?_
            refine thenA_n ?_
            refine aw_region ?_
            refine al_opd rfl rfl rfl (ao_mv (v := .slice _ _ _) rfl) ?_
            refine al_opd rfl rfl rfl (ao_mv (v := .slice _ _ _) rfl) ?_
            refine al_opd rfl rfl rfl (ao_lit1 (v := .slice _ _ _) Try.underlying49 Try.sizeOf40 Try.zeroValue40 (by rfl) (by rfl) rfl rfl (by rfl) (by exact RFp)) ?_
            refine al_opd rfl rfl rfl (ao_appC Try.underlying49 ⟨_, Try.underlying49⟩ elem40 (by rfl) (by rfl) (by exact HLp) (by first | (rw [slC_len hPH.len, ← hno]; omega)) (by first | exact src_all (by exact HLp) (by rfl) (by rfl) | exact src_all (by exact HLp) (by rfl) (fl_len spot_len _)) (by first | rfl | exact spots_one _ | simp [isOne]) (by exact BDp) (by exact BDp)) ?_
            refine al_opd rfl rfl rfl (ao_as (v := .slice _ _ _) rfl) ?_
            refine al_nilB ?_
            refine thenA_n ?_
            refine aw_region ?_
            first | refine al_opd rfl rfl rfl ((ao_add rfl rfl).val (nw_i64 BDp BDp)) ?_ | refine al_opd rfl rfl rfl (ao_add rfl rfl) ?_
            refine al_opd rfl rfl rfl (ao_mv (v := .int _ _) rfl) ?_
            refine al_nilT ?_
            have hP1 := ((((hPH2.add hbp (by omega) hkp).push (.cells [slV pb (nearL r x 100)] 1)).kill (not_snoc hbo (Ne.symm hpo))).push (.cells (slC bs (partsI r i) ++ [slV pb (nearL r x 100)]) 1))
            refine ⟨_, ?_, _, rfl, i + 1, _, no + 1, _, bs ++ [pb], by omega, rfl, ?_, ?_, ?_, by rw [parts_no hx hnm, List.length_append, ← hno]; rfl, Nat.le_succ _, ?_, by exact SMp, by exact HLp, by rw [parts_flat hx hnm]; exact (by exact HLp), by exact HLp, ?_, ?_, by rw [parts_no hx hnm, slC_snoc hPH.len]; exact (by exact HLp), by rw [parts_no hx hnm]; exact hP1, rfl, rfl, rfl, rfl, rfl, by rfl⟩
            · omega
            · exact LNp
            · exact LNp
            · exact LNp
            · exact not_snoc (hPH2.nx (by exact LNp)) (by exact LNp)
            · exact LNp
            · exact LNp
    · try simp only [decide_eq_true_eq, decide_eq_false_iff_not, Bool.not_eq_true', Bool.not_eq_false', Bool.and_eq_true, Bool.or_eq_true, Bool.and_eq_false_iff, Bool.or_eq_false_iff, beq_iff_eq, bne_iff_ne, beq_eq_false_iff_ne, bne_eq_false_iff_eq, ne_eq, Decidable.not_not, Bool.decide_eq_true] at h1_
      refine aw_exit ?_
      refine thenA_x ?_
      refine thenA_x ?_
      refine blockA_hit ?_
      refine thenA_n ?_
      refine aw_seq ?_
      refine aw_region ?_
      refine al_opd rfl rfl rfl (ao_mv (v := .slice _ _ _) rfl) ?_
      refine al_opd rfl rfl rfl (ao_as (v := .slice _ _ _) rfl) ?_
      refine al_nilT ?_
      refine aw_ret ?_
      refine ends1 rfl (rv_tmp (v := .slice _ _ _) rfl) ?_
      rw [parts_end (by omega)] at hko hno hPH
      exact ⟨hG, bs, hPH.weak (by omega), ob, co, by omega, hlo, hbo, by omega, by rw [hno], hko⟩

end Go.Proofs.Ytkjmcolnoehjbaa
