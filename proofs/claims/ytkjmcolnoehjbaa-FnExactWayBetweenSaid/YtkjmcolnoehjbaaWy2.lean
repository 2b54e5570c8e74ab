/- Contracts of the program's functions over abstract heaps. -/
import Derived.Test.YtkjmcolnoehjbaaWay
import Derived.Test.YtkjmcolnoehjbaaSt
import Derived.Test.YtkjmcolnoehjbaaCp
namespace Go.Proofs.Ytkjmcolnoehjbaa
open Go Go.AW Go.Proofs
set_option linter.unusedVariables false
set_option linter.unusedSimpArgs false
set_option maxRecDepth 100000
set_option maxHeartbeats 2000000

-- slices.MinFunc[[]impl.Spot,impl.Spot]
theorem minF_c {v : Value} {l : List Spot} {H : AHeap} (hv : Sl H spot 2 v l) (h0 : 0 < l.length) (hl : l.length ≤ 1000) (hws : ∀ s ∈ l, wfSpot s) : ACd Try.prog 62 [v, .func (.func 43) #[] #[]] H (.agg #[.int .i8 (headMin l ⟨-1, 0⟩).x, .int .i8 (headMin l ⟨-1, 0⟩).y]) (H) := by
  obtain ⟨y0, h00⟩ := get_lt h0
  have hs0 : Sl (H.push (.cells [.int .i8 0, .int .i8 0] 1)) spot 2 v l := hv.mono (by exact SMp)
  have h1m : headMin (l.take 1) ⟨-1, 0⟩ = y0 := headMin_one h00
  refine ac_gc0 (fun β => VR.plainT β (by first | rfl | simp [plainT, plainV, plain1])) (ac_body Try.func62 rfl Try.ntmps62 rfl ?_)
  refine aw_seq ?_
  refine aw_region ?_
  refine al_opd rfl rfl rfl (ao_alloca (zv33) (by rfl)) ?_
  refine al_nilT ?_
  refine aw_seq ?_
  refine aw_seq ?_
  refine aw_region ?_
  first | refine al_opd rfl rfl rfl (ao_mv (v := .slice _ _ _) rfl) ?_ | refine al_opd rfl rfl rfl (ao_mv (v := v) rfl) ?_ | refine al_opd rfl rfl rfl (ao_mv (v := .func (.func 43) #[] #[]) rfl) ?_
  first | refine al_opd rfl rfl rfl (ao_lenS Try.underlying40 (by rfl)) ?_ | refine al_opd rfl rfl rfl (ao_lenN Try.underlying40 (by rfl)) ?_ | refine al_opd rfl rfl rfl (ao_lenV Try.underlying40 rfl hs0) ?_ | refine al_opd rfl rfl rfl (ao_lenV Try.underlying40 rfl hs1) ?_
  refine al_opd rfl rfl rfl (ao_lss rfl rfl) ?_
  refine al_nilT ?_
  refine aw_cond rfl (fun h1_ => ?_) (fun h1_ => ?_)
  · try simp only [decide_eq_true_eq, decide_eq_false_iff_not, Bool.not_eq_true', Bool.not_eq_false', Bool.and_eq_true, Bool.or_eq_true, Bool.and_eq_false_iff, Bool.or_eq_false_iff, beq_iff_eq, bne_iff_ne, beq_eq_false_iff_ne, bne_eq_false_iff_eq, ne_eq, Decidable.not_not, Bool.decide_eq_true] at h1_
    first | done | omega | (exfalso; revert h1_; simp; (first | done | omega))
  · try simp only [decide_eq_true_eq, decide_eq_false_iff_not, Bool.not_eq_true', Bool.not_eq_false', Bool.and_eq_true, Bool.or_eq_true, Bool.and_eq_false_iff, Bool.or_eq_false_iff, beq_iff_eq, bne_iff_ne, beq_eq_false_iff_ne, bne_eq_false_iff_eq, ne_eq, Decidable.not_not, Bool.decide_eq_true] at h1_
    refine aw_skipT ?_
    refine aw_seq ?_
    refine aw_region ?_
    first | refine al_opd rfl rfl rfl (ao_mv (v := .slice _ _ _) rfl) ?_ | refine al_opd rfl rfl rfl (ao_mv (v := v) rfl) ?_ | refine al_opd rfl rfl rfl (ao_mv (v := .func (.func 43) #[] #[]) rfl) ?_
    first | refine al_opd rfl rfl rfl (ao_indexAddrS Try.underlying40 Try.sizeOf33 rfl rfl (by exact IXp) (by exact IXp)) ?_ | refine al_opd rfl rfl rfl (ao_indexV Try.underlying40 Try.sizeOf33 rfl rfl hs0 (by exact IXp) (by exact IXp)) ?_ | refine al_opd rfl rfl rfl (ao_indexV Try.underlying40 Try.sizeOf33 rfl rfl hs1 (by exact IXp) (by exact IXp)) ?_
    first | refine al_opd rfl rfl rfl (ao_loada Try.isAgg33 Try.sizeOf33 rfl (by exact HLp) (by rfl) (by exact RFp)) ?_ | refine al_opd rfl rfl rfl (ao_loadsV (A := #[.int _ _, .int _ _]) Try.isAgg33 Try.sizeOf33 hs0 rfl h00 rfl (by decide)) ?_ | refine al_opd rfl rfl rfl (ao_loadsV (A := #[.int _ _, .int _ _]) Try.isAgg33 Try.sizeOf33 hs0 rfl hy rfl (by decide)) ?_ | refine al_opd rfl rfl rfl (ao_loadsV (A := #[.int _ _, .int _ _]) Try.isAgg33 Try.sizeOf33 hs1 rfl h00 rfl (by decide)) ?_ | refine al_opd rfl rfl rfl (ao_loadsV (A := #[.int _ _, .int _ _]) Try.isAgg33 Try.sizeOf33 hs1 rfl hy rfl (by decide)) ?_
    refine al_opd rfl rfl rfl (ao_alloca (zv33) (by rfl)) ?_
    first | refine al_opd rfl rfl rfl ((ao_storeL Try.sizeOf33 (by rfl) (by rfl) (by exact HLp) (by exact RFp) (by exact RFp) (by exact RFp)).to (SetR.eq (by exact SRp))) ?_ | refine al_opd rfl rfl rfl ((ao_storeP (ds := [.int _ _, .int _ _]) Try.sizeOf33 (by rfl) (by rfl) (by exact HLp) (by exact RFp) (by exact RFp) (by exact LTp)).to (SetR.eq (by exact SRp))) ?_
    refine al_nilT ?_
    refine aw_seq ?_
    refine aw_seq ?_
    refine aw_region ?_
    refine al_opd rfl rfl rfl (ao_as (v := .int _ _) rfl) ?_
    refine al_nilT ?_
    refine aw_block ?_
    refine aw_loop (fun (gk : Nat) (fr : AFr) (G : AHeap) => ∃ get : Nat → Value, fr = ⟨33, get⟩ ∧ (∃ i : Nat, 1 ≤ i ∧ i ≤ l.length ∧ gk = l.length - i ∧ Same H.next H G ∧ (∃ q, G.blk H.next = some (.cells (spot q) 1)) ∧ G.blk (H.next + 1) = some (.cells (spot (headMin (l.take i) ⟨-1, 0⟩)) 1) ∧ H.next + 2 ≤ G.next ∧ get 0 = v ∧ get 1 = .func (.func 43) #[] #[] ∧ get 4 = .pointer (some ⟨H.next, 0, none⟩) ∧ get 5 = .pointer (some ⟨H.next + 1, 0, none⟩) ∧ get 6 = .int .i64 i)) (l.length - 1) ⟨_, rfl, ?_⟩ ?_
    · refine ⟨1, Nat.le_refl _, by omega, rfl, by exact SMp, ⟨⟨0, 0⟩, by exact HLp⟩, by rw [h1m]; exact (by exact HLp), ?_, rfl, rfl, rfl, rfl, rfl⟩ <;> exact LNp
    · rintro gk fr G ⟨get, rfl, i, h1i, hi, rfl, hG, ⟨q, hbq⟩, hbm, hnx, g0, g1, g4, g5, g6⟩
      have hs1 : Sl G spot 2 v l := hv.mono hG
      have hwm := headMin_wf (d := ⟨-1, 0⟩) hws h1i h0
      refine aw_slot (d := 0) (v := v) (by first | assumption | rfl) ?_
      refine aw_slot (d := 1) (v := .func (.func 43) #[] #[]) (by first | assumption | rfl) ?_
      refine aw_slot (d := 4) (v := .pointer (some ⟨H.next, 0, none⟩)) (by first | assumption | rfl) ?_
      refine aw_slot (d := 5) (v := .pointer (some ⟨H.next + 1, 0, none⟩)) (by first | assumption | rfl) ?_
      refine aw_slot (d := 6) (v := .int .i64 i) (by first | assumption | rfl) ?_
      refine aw_seq ?_
      refine aw_seq ?_
      refine aw_region ?_
      refine al_opd rfl rfl rfl (ao_mv (v := .int _ _) rfl) ?_
      first | refine al_opd rfl rfl rfl (ao_mv (v := .slice _ _ _) rfl) ?_ | refine al_opd rfl rfl rfl (ao_mv (v := v) rfl) ?_ | refine al_opd rfl rfl rfl (ao_mv (v := .func (.func 43) #[] #[]) rfl) ?_
      first | refine al_opd rfl rfl rfl (ao_lenS Try.underlying40 (by rfl)) ?_ | refine al_opd rfl rfl rfl (ao_lenN Try.underlying40 (by rfl)) ?_ | refine al_opd rfl rfl rfl (ao_lenV Try.underlying40 rfl hs0) ?_ | refine al_opd rfl rfl rfl (ao_lenV Try.underlying40 rfl hs1) ?_
      refine al_opd rfl rfl rfl (ao_lss rfl rfl) ?_
      refine al_nilT ?_
      refine aw_cond rfl (fun h2_ => ?_) (fun h2_ => ?_)
      · try simp only [decide_eq_true_eq, decide_eq_false_iff_not, Bool.not_eq_true', Bool.not_eq_false', Bool.and_eq_true, Bool.or_eq_true, Bool.and_eq_false_iff, Bool.or_eq_false_iff, beq_iff_eq, bne_iff_ne, beq_eq_false_iff_ne, bne_eq_false_iff_eq, ne_eq, Decidable.not_not, Bool.decide_eq_true] at h2_
        obtain ⟨y, hy⟩ := get_lt (show i < l.length by omega)
        have hwy := hws y (List.mem_of_getElem? hy)
        refine aw_skipT ?_
        refine aw_seq ?_
        refine aw_block ?_
        refine aw_seq ?_
        refine aw_draw (m := 8) mo (by kernel_rfl) rfl (fun _ _ _ h => h) ?_
        first | refine dw_opd rfl rfl rfl (ao_mv (v := .func _ _ _) rfl) ?_ | refine dw_opd rfl rfl rfl (ao_mv (v := v) rfl) ?_ | refine dw_opd rfl rfl rfl (ao_mv (v := .func (.func 43) #[] #[]) rfl) ?_
        first | refine dw_opd rfl rfl rfl (ao_mv (v := .slice _ _ _) rfl) ?_ | refine dw_opd rfl rfl rfl (ao_mv (v := v) rfl) ?_ | refine dw_opd rfl rfl rfl (ao_mv (v := .func (.func 43) #[] #[]) rfl) ?_
        refine dw_opd rfl rfl rfl (ao_mv (v := .int _ _) rfl) ?_
        first | refine dw_opd rfl rfl rfl (ao_indexAddrS Try.underlying40 Try.sizeOf33 rfl rfl (by exact IXp) (by exact IXp)) ?_ | refine dw_opd rfl rfl rfl (ao_indexV Try.underlying40 Try.sizeOf33 rfl rfl hs0 (by exact IXp) (by exact IXp)) ?_ | refine dw_opd rfl rfl rfl (ao_indexV Try.underlying40 Try.sizeOf33 rfl rfl hs1 (by exact IXp) (by exact IXp)) ?_
        first | refine dw_opd rfl rfl rfl (ao_loada Try.isAgg33 Try.sizeOf33 rfl (by exact HLp) (by rfl) (by exact RFp)) ?_ | refine dw_opd rfl rfl rfl (ao_loadsV (A := #[.int _ _, .int _ _]) Try.isAgg33 Try.sizeOf33 hs0 rfl h00 rfl (by decide)) ?_ | refine dw_opd rfl rfl rfl (ao_loadsV (A := #[.int _ _, .int _ _]) Try.isAgg33 Try.sizeOf33 hs0 rfl hy rfl (by decide)) ?_ | refine dw_opd rfl rfl rfl (ao_loadsV (A := #[.int _ _, .int _ _]) Try.isAgg33 Try.sizeOf33 hs1 rfl h00 rfl (by decide)) ?_ | refine dw_opd rfl rfl rfl (ao_loadsV (A := #[.int _ _, .int _ _]) Try.isAgg33 Try.sizeOf33 hs1 rfl hy rfl (by decide)) ?_
        first | refine dw_opd rfl rfl rfl (ao_loada Try.isAgg33 Try.sizeOf33 rfl (by exact HLp) (by rfl) (by exact RFp)) ?_ | refine dw_opd rfl rfl rfl (ao_loadsV (A := #[.int _ _, .int _ _]) Try.isAgg33 Try.sizeOf33 hs0 rfl h00 rfl (by decide)) ?_ | refine dw_opd rfl rfl rfl (ao_loadsV (A := #[.int _ _, .int _ _]) Try.isAgg33 Try.sizeOf33 hs0 rfl hy rfl (by decide)) ?_ | refine dw_opd rfl rfl rfl (ao_loadsV (A := #[.int _ _, .int _ _]) Try.isAgg33 Try.sizeOf33 hs1 rfl h00 rfl (by decide)) ?_ | refine dw_opd rfl rfl rfl (ao_loadsV (A := #[.int _ _, .int _ _]) Try.isAgg33 Try.sizeOf33 hs1 rfl hy rfl (by decide)) ?_
        refine dw_opd rfl rfl rfl (ao_callv Try.call43 (by rfl) (by rfl) (cmpSpots_c (a := y) (b := (headMin (l.take i) ⟨-1, 0⟩)) hwy hwm)) ?_
        refine dw_opd rfl rfl rfl (ao_lss rfl rfl) ?_
        refine dw_end ?_
        refine al_nilT ?_
        refine aw_cond rfl (fun h3_ => ?_) (fun h3_ => ?_)
        · try simp only [decide_eq_true_eq, decide_eq_false_iff_not, Bool.not_eq_true', Bool.not_eq_false', Bool.and_eq_true, Bool.or_eq_true, Bool.and_eq_false_iff, Bool.or_eq_false_iff, beq_iff_eq, bne_iff_ne, beq_eq_false_iff_ne, bne_eq_false_iff_eq, ne_eq, Decidable.not_not, Bool.decide_eq_true] at h3_
          refine aw_region ?_
          first | refine al_opd rfl rfl rfl (ao_mv (v := .slice _ _ _) rfl) ?_ | refine al_opd rfl rfl rfl (ao_mv (v := v) rfl) ?_ | refine al_opd rfl rfl rfl (ao_mv (v := .func (.func 43) #[] #[]) rfl) ?_
          refine al_opd rfl rfl rfl (ao_mv (v := .int _ _) rfl) ?_
          first | refine al_opd rfl rfl rfl (ao_indexAddrS Try.underlying40 Try.sizeOf33 rfl rfl (by exact IXp) (by exact IXp)) ?_ | refine al_opd rfl rfl rfl (ao_indexV Try.underlying40 Try.sizeOf33 rfl rfl hs0 (by exact IXp) (by exact IXp)) ?_ | refine al_opd rfl rfl rfl (ao_indexV Try.underlying40 Try.sizeOf33 rfl rfl hs1 (by exact IXp) (by exact IXp)) ?_
          first | refine al_opd rfl rfl rfl (ao_loada Try.isAgg33 Try.sizeOf33 rfl (by exact HLp) (by rfl) (by exact RFp)) ?_ | refine al_opd rfl rfl rfl (ao_loadsV (A := #[.int _ _, .int _ _]) Try.isAgg33 Try.sizeOf33 hs0 rfl h00 rfl (by decide)) ?_ | refine al_opd rfl rfl rfl (ao_loadsV (A := #[.int _ _, .int _ _]) Try.isAgg33 Try.sizeOf33 hs0 rfl hy rfl (by decide)) ?_ | refine al_opd rfl rfl rfl (ao_loadsV (A := #[.int _ _, .int _ _]) Try.isAgg33 Try.sizeOf33 hs1 rfl h00 rfl (by decide)) ?_ | refine al_opd rfl rfl rfl (ao_loadsV (A := #[.int _ _, .int _ _]) Try.isAgg33 Try.sizeOf33 hs1 rfl hy rfl (by decide)) ?_
          first | refine al_opd rfl rfl rfl ((ao_storeL Try.sizeOf33 (by rfl) (by rfl) (by exact HLp) (by exact RFp) (by exact RFp) (by exact RFp)).to (SetR.eq (by exact SRp))) ?_ | refine al_opd rfl rfl rfl ((ao_storeP (ds := [.int _ _, .int _ _]) Try.sizeOf33 (by rfl) (by rfl) (by exact HLp) (by exact RFp) (by exact RFp) (by exact LTp)).to (SetR.eq (by exact SRp))) ?_
          refine al_nilB ?_
          refine thenA_n ?_
          refine aw_region ?_
          refine al_opd rfl rfl rfl (ao_mv (v := .int _ _) rfl) ?_
          first | refine al_opd rfl rfl rfl ((ao_add rfl rfl).val (nw_i64 BDp BDp)) ?_ | refine al_opd rfl rfl rfl (ao_add rfl rfl) ?_
          refine al_opd rfl rfl rfl (ao_as (v := .int _ _) rfl) ?_
          refine al_nilT ?_
          refine ⟨_, ?_, _, rfl, i + 1, by omega, by omega, rfl, by exact SMp, ⟨q, by exact HLp⟩, by rw [headMin_step h1i hy, show minS (headMin (l.take i) ⟨-1, 0⟩) y = y from if_pos (cmpS_lt.mp h3_)]; exact (by exact HLp), ?_, rfl, rfl, rfl, rfl, by rfl⟩
          · omega
          · exact LNp
        · try simp only [decide_eq_true_eq, decide_eq_false_iff_not, Bool.not_eq_true', Bool.not_eq_false', Bool.and_eq_true, Bool.or_eq_true, Bool.and_eq_false_iff, Bool.or_eq_false_iff, beq_iff_eq, bne_iff_ne, beq_eq_false_iff_ne, bne_eq_false_iff_eq, ne_eq, Decidable.not_not, Bool.decide_eq_true] at h3_
          refine aw_skipB ?_
          refine thenA_n ?_
          refine aw_region ?_
          refine al_opd rfl rfl rfl (ao_mv (v := .int _ _) rfl) ?_
          first | refine al_opd rfl rfl rfl ((ao_add rfl rfl).val (nw_i64 BDp BDp)) ?_ | refine al_opd rfl rfl rfl (ao_add rfl rfl) ?_
          refine al_opd rfl rfl rfl (ao_as (v := .int _ _) rfl) ?_
          refine al_nilT ?_
          refine ⟨_, ?_, _, rfl, i + 1, by omega, by omega, rfl, by exact SMp, ⟨q, by exact HLp⟩, by rw [headMin_step h1i hy, show minS (headMin (l.take i) ⟨-1, 0⟩) y = (headMin (l.take i) ⟨-1, 0⟩) from if_neg (fun e => absurd (cmpS_lt.mpr e) (by omega))]; exact hbm, ?_, rfl, rfl, rfl, rfl, by rfl⟩
          · omega
          · exact LNp
      · try simp only [decide_eq_true_eq, decide_eq_false_iff_not, Bool.not_eq_true', Bool.not_eq_false', Bool.and_eq_true, Bool.or_eq_true, Bool.and_eq_false_iff, Bool.or_eq_false_iff, beq_iff_eq, bne_iff_ne, beq_eq_false_iff_ne, bne_eq_false_iff_eq, ne_eq, Decidable.not_not, Bool.decide_eq_true] at h2_
        rw [List.take_of_length_le (show l.length ≤ i by omega)] at hbm
        refine aw_exit ?_
        refine thenA_x ?_
        refine thenA_x ?_
        refine blockA_hit ?_
        refine thenA_n ?_
        refine aw_seq ?_
        refine aw_region ?_
        first | refine al_opd rfl rfl rfl (ao_loada Try.isAgg33 Try.sizeOf33 rfl (by exact HLp) (by rfl) (by exact RFp)) ?_ | refine al_opd rfl rfl rfl (ao_loadsV (A := #[.int _ _, .int _ _]) Try.isAgg33 Try.sizeOf33 hs0 rfl h00 rfl (by decide)) ?_ | refine al_opd rfl rfl rfl (ao_loadsV (A := #[.int _ _, .int _ _]) Try.isAgg33 Try.sizeOf33 hs0 rfl hy rfl (by decide)) ?_ | refine al_opd rfl rfl rfl (ao_loadsV (A := #[.int _ _, .int _ _]) Try.isAgg33 Try.sizeOf33 hs1 rfl h00 rfl (by decide)) ?_ | refine al_opd rfl rfl rfl (ao_loadsV (A := #[.int _ _, .int _ _]) Try.isAgg33 Try.sizeOf33 hs1 rfl hy rfl (by decide)) ?_
        first | refine al_opd rfl rfl rfl ((ao_storeL Try.sizeOf33 (by rfl) (by rfl) (by exact HLp) (by exact RFp) (by exact RFp) (by exact RFp)).to (SetR.eq (by exact SRp))) ?_ | refine al_opd rfl rfl rfl ((ao_storeP (ds := [.int _ _, .int _ _]) Try.sizeOf33 (by rfl) (by rfl) (by exact HLp) (by exact RFp) (by exact RFp) (by exact LTp)).to (SetR.eq (by exact SRp))) ?_
        refine al_nilT ?_
        refine aw_ret ?_
        refine ends1 rfl (rv_cella Try.isAgg33 Try.sizeOf33 rfl (by exact HLp) (by rfl) (by exact RFp)) ?_
        exact ⟨rfl, by exact SMp⟩

-- impl.WayBetween$1
theorem wayB1_c {r : Room} {a b s : Spot} {u v : Int} {b1 b2 mb : Nat} {H : AHeap} (h1 : H.blk b1 = some (.cells [.map (some mb)] 1)) (h2 : H.blk b2 = some (.cells [.int .i8 a.x, .int .i8 a.y] 1)) (hm : H.blk mb = some (mapB (found r b))) (hu : mget (found r b) s = some u) (hv : mget (found r b) a = some v) (hb : isFree r b) : ACd Try.prog 61 [.agg #[.int .i8 s.x, .int .i8 s.y], .pointer (some ⟨b1, 0, none⟩), .pointer (some ⟨b2, 0, none⟩)] H (.bool (!candB r b a s)) (H) := by
  have hcv := cand_val hu hv
  have hvp := found_pos hb hv
  refine ac_gc0 (fun β => VR.plainT β (by first | rfl | simp [plainT, plainV, plain1])) (ac_body Try.func61 rfl Try.ntmps61 rfl ?_)
  refine aw_seq ?_
  refine aw_region ?_
  refine al_opd rfl rfl rfl (ao_boxa (by rfl)) ?_
  refine al_opd rfl rfl rfl (ao_as (v := .bool _) rfl) ?_
  refine al_nilT ?_
  refine aw_seq ?_
  refine aw_draw (m := 9) mo (by kernel_rfl) rfl (fun _ _ _ h => h) ?_
  refine dw_opd rfl rfl rfl (ao_load (v := .map _) Try.isAgg64 (by rfl) (by exact HLp) (by rfl) (by exact RFp)) ?_
  refine dw_opd rfl rfl rfl (ao_loada Try.isAgg33 Try.sizeOf33 rfl (by exact HLp) (by rfl) (by exact RFp)) ?_
  refine dw_opd rfl rfl rfl (ao_look1 (m := found r b) (k := s) (ok := true) (u := .int .i64 u) (ke := spV) (ve := ivV) Try.underlying64 keySpot_c (fun _ => rfl) Try.zeroValue2 (by rfl) (by rfl) (by rfl) (by exact HLp) (.inr ⟨u, hu, rfl, rfl⟩)) ?_
  refine dw_opd rfl rfl rfl (ao_load (v := .map _) Try.isAgg64 (by rfl) (by exact HLp) (by rfl) (by exact RFp)) ?_
  refine dw_opd rfl rfl rfl (ao_loada Try.isAgg33 Try.sizeOf33 rfl (by exact HLp) (by rfl) (by exact RFp)) ?_
  refine dw_opd rfl rfl rfl (ao_look1 (m := found r b) (k := a) (ok := true) (u := .int .i64 v) (ke := spV) (ve := ivV) Try.underlying64 keySpot_c (fun _ => rfl) Try.zeroValue2 (by rfl) (by rfl) (by rfl) (by exact HLp) (.inr ⟨v, hv, rfl, rfl⟩)) ?_
  first | refine dw_opd rfl rfl rfl ((ao_sub rfl rfl).val (nw_i64 BDp BDp)) ?_ | refine dw_opd rfl rfl rfl (ao_sub rfl rfl) ?_
  refine dw_opd rfl rfl rfl (ao_neq rfl rfl) ?_
  refine dw_opd rfl rfl rfl (ao_as (v := .bool _) rfl) ?_
  refine dw_end ?_
  refine al_nilT ?_
  refine aw_ret ?_
  refine ends1 rfl (rv_tmp (v := .bool _) rfl) ?_
  exact ⟨by rw [hcv], by exact SMp⟩

end Go.Proofs.Ytkjmcolnoehjbaa
