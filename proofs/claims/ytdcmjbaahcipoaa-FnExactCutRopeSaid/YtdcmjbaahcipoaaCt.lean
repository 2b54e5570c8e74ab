/- Contracts of the program's functions over abstract heaps. -/
import Derived.Test.YtdcmjbaahcipoaaDag2
import Derived.Test.YtdcmjbaahcipoaaBase
import Derived.Test.YtdcmjbaahcipoaaOk
import Derived.Test.YtdcmjbaahcipoaaCl
namespace Go.Proofs.Ytdcmjbaahcipoaa
open Go Go.AW Go.Proofs
set_option linter.unusedVariables false
set_option linter.unusedSimpArgs false
set_option maxRecDepth 100000
set_option maxHeartbeats 2000000

theorem cloneI16n_c {l : List Int} {pb o c n : Nat} {H : AHeap} (hh : Sl H i16 1 (.slice (some ⟨pb, o, none⟩) n c) l) (hl : l.length ≤ 4194304) (hn : n = l.length) : ACd Try.prog 26 [.slice (some ⟨pb, o, none⟩) n c] H (.slice (some ⟨H.next, 0, none⟩) l.length (l.length + 1)) (H.push (.cells (fl i16 l) 1)) := by
  subst hn
  exact cloneI16_c hh hl

-- spec.CutRope
theorem specCut0_c {L : Int} {ks : List Int} {lb c' k : Nat} {x : Int} {H : AHeap} (hk0 : H.blk lb = some (.cells (fl i16 ks) 1)) (hcc : ks.length ≤ c') (hlen : ks.length ≤ 4194304) (hL : -32768 ≤ L ∧ L ≤ 32767) (hv : okRope L ks) (h1 : 0 < k) (h2 : k + 1 < ks.length) (hx : ks[k]? = some x) : ACd Try.prog 6 [.agg #[.int .i16 L, .slice (some ⟨lb, 0, none⟩) ks.length c'], .int .i64 k] H (.tuple #[.agg #[.int .i16 x, .slice (some ⟨H.next, 0, none⟩) (ks.take (k + 1)).length ((ks.take (k + 1)).length + 1)], .agg #[.int .i16 (L - x), .slice (some ⟨H.next + 1, 0, none⟩) (cutB ks k x).length ((cutB ks k x).length + 1)], .int .i64 0]) ((H.push (.cells (fl i16 (ks.take (k + 1))) 1)).push (.cells (fl i16 (cutB ks k x)) 1)) := by
  have hlt0 := AHeap.lt hk0
  have ha0 : Sl H i16 1 (.slice (some ⟨lb, 0, none⟩) ks.length c') ks := Sl.full i16_len hk0 rfl rfl rfl
  have ⟨v1, v2, v3, v4, v5, v6, v7⟩ := hv
  have bx := hv.bnd hx
  have hcl := cutB_len ks k x
  have htl : (ks.take (k + 1)).length = k + 1 := by simp; omega
  refine ac_gc2 (vrl_fl i16_plain _) (vrl_fl i16_plain _) (ac_body Try.func6 rfl Try.ntmps6 rfl ?_)
  refine aw_seq ?_
  refine aw_region ?_
  refine al_opd rfl rfl rfl (ao_boxa (by rfl)) ?_
  refine al_opd rfl rfl rfl (ao_alloca (zv27) (by rfl)) ?_
  refine al_opd rfl rfl rfl (ao_alloca (zv27) (by rfl)) ?_
  refine al_opd rfl rfl rfl (ao_as (v := .int _ _) rfl) ?_
  refine al_nilT ?_
  refine aw_seq ?_
  refine aw_seq ?_
  refine aw_region ?_
  refine al_opd rfl rfl rfl (ao_calld (l03Ok_c (L := L) (v := .slice (some ⟨lb, 0, none⟩) ks.length c') (ks := ks) (b := true) (ha0.mono (by exact SMp)) hlen (by exact HLp) hL (yes hv)) Try.call20 rfl rfl) ?_
  refine al_opd rfl rfl rfl (ao_not rfl) ?_
  refine al_nilT ?_
  refine aw_cond rfl (fun h1_ => ?_) (fun h1_ => ?_)
  · try simp only [decide_eq_true_eq, decide_eq_false_iff_not, Bool.not_eq_true', Bool.not_eq_false', Bool.and_eq_true, Bool.or_eq_true, Bool.and_eq_false_iff, Bool.or_eq_false_iff, beq_iff_eq, bne_iff_ne, beq_eq_false_iff_ne, bne_eq_false_iff_eq, ne_eq, Decidable.not_not, Bool.decide_eq_true] at h1_
    first | done | omega | (exfalso; revert h1_; simp; (first | done | omega))
  · try simp only [decide_eq_true_eq, decide_eq_false_iff_not, Bool.not_eq_true', Bool.not_eq_false', Bool.and_eq_true, Bool.or_eq_true, Bool.and_eq_false_iff, Bool.or_eq_false_iff, beq_iff_eq, bne_iff_ne, beq_eq_false_iff_ne, bne_eq_false_iff_eq, ne_eq, Decidable.not_not, Bool.decide_eq_true] at h1_
    refine aw_skipT ?_
    refine aw_seq ?_
    refine aw_region ?_
    refine al_opd rfl rfl rfl (ao_fieldAddr fo_27_1 rfl) ?_
    first | refine al_opd rfl rfl rfl (ao_load (v := .slice _ _ _) Try.isAgg23 (by rfl) (by exact HLp) (by rfl) (by exact RFp)) ?_ | refine al_opd rfl rfl rfl (ao_loadV (j := 0) (u := .slice _ _ _) Try.isAgg23 ha rfl rfl hy rfl) ?_ | refine al_opd rfl rfl rfl (ao_loadV (j := 1) (u := .slice _ _ _) Try.isAgg23 ha rfl rfl hy rfl) ?_ | refine al_opd rfl rfl rfl (ao_loadV (j := 0) (u := .slice _ _ _) Try.isAgg23 ha rfl rfl hx rfl) ?_ | refine al_opd rfl rfl rfl (ao_loadV (j := 1) (u := .slice _ _ _) Try.isAgg23 ha rfl rfl hx rfl) ?_
    first | refine al_opd rfl rfl rfl (ao_lenS Try.underlying23 (by rfl)) ?_ | refine al_opd rfl rfl rfl (ao_lenN Try.underlying23 (by rfl)) ?_ | refine al_opd rfl rfl rfl (ao_lenV Try.underlying23 rfl ha) ?_
    first | refine al_opd rfl rfl rfl ((ao_sub rfl rfl).val (nw_i64 BDp BDp)) ?_ | refine al_opd rfl rfl rfl (ao_sub rfl rfl) ?_
    refine al_opd rfl rfl rfl (ao_as (v := .int _ _) rfl) ?_
    refine al_nilT ?_
    refine aw_seq ?_
    refine aw_seq ?_
    refine aw_region ?_
    refine al_opd rfl rfl rfl (ao_mv (v := .int _ _) rfl) ?_
    refine al_opd rfl rfl rfl (ao_mv (v := .int _ _) rfl) ?_
    refine al_opd rfl rfl rfl (ao_calld (l00In_c) Try.call21 rfl rfl) ?_
    refine al_opd rfl rfl rfl (ao_not rfl) ?_
    refine al_nilT ?_
    refine aw_cond rfl (fun h2_ => ?_) (fun h2_ => ?_)
    · try simp only [decide_eq_true_eq, decide_eq_false_iff_not, Bool.not_eq_true', Bool.not_eq_false', Bool.and_eq_true, Bool.or_eq_true, Bool.and_eq_false_iff, Bool.or_eq_false_iff, beq_iff_eq, bne_iff_ne, beq_eq_false_iff_ne, bne_eq_false_iff_eq, ne_eq, Decidable.not_not, Bool.decide_eq_true] at h2_
      first | done | omega | (exfalso; revert h2_; simp; (first | done | omega))
    · try simp only [decide_eq_true_eq, decide_eq_false_iff_not, Bool.not_eq_true', Bool.not_eq_false', Bool.and_eq_true, Bool.or_eq_true, Bool.and_eq_false_iff, Bool.or_eq_false_iff, beq_iff_eq, bne_iff_ne, beq_eq_false_iff_ne, bne_eq_false_iff_eq, ne_eq, Decidable.not_not, Bool.decide_eq_true] at h2_
      refine aw_skipT ?_
      refine aw_seq ?_
      refine aw_seq ?_
      refine aw_region ?_
      refine al_opd rfl rfl rfl (ao_mv (v := .int _ _) rfl) ?_
      refine al_opd rfl rfl rfl (ao_eql rfl rfl) ?_
      refine al_opd rfl rfl rfl (ao_mv (v := .bool _) rfl) ?_
      refine al_cases (d := 28) rfl (fun h3_ => ?_) (fun h3_ => ?_)
      · try simp only [decide_eq_true_eq, decide_eq_false_iff_not, Bool.not_eq_true', Bool.not_eq_false', Bool.and_eq_true, Bool.or_eq_true, Bool.and_eq_false_iff, Bool.or_eq_false_iff, beq_iff_eq, bne_iff_ne, beq_eq_false_iff_ne, bne_eq_false_iff_eq, ne_eq, Decidable.not_not, Bool.decide_eq_true] at h3_
        first | done | omega | (exfalso; revert h3_; simp; (first | done | omega))
      · try simp only [decide_eq_true_eq, decide_eq_false_iff_not, Bool.not_eq_true', Bool.not_eq_false', Bool.and_eq_true, Bool.or_eq_true, Bool.and_eq_false_iff, Bool.or_eq_false_iff, beq_iff_eq, bne_iff_ne, beq_eq_false_iff_ne, bne_eq_false_iff_eq, ne_eq, Decidable.not_not, Bool.decide_eq_true] at h3_
        refine al_gyes rfl rfl rfl rfl rfl (ao_mv (v := .int _ _) rfl) ?_
        refine al_gyes rfl rfl rfl rfl rfl (ao_mv (v := .int _ _) rfl) ?_
        refine al_gyes rfl rfl rfl rfl rfl (ao_eql rfl rfl) ?_
        refine al_opd rfl rfl rfl (ao_pickF rfl (v := .bool _) rfl) ?_
        refine al_nilT ?_
        refine aw_cond rfl (fun h4_ => ?_) (fun h4_ => ?_)
        · try simp only [decide_eq_true_eq, decide_eq_false_iff_not, Bool.not_eq_true', Bool.not_eq_false', Bool.and_eq_true, Bool.or_eq_true, Bool.and_eq_false_iff, Bool.or_eq_false_iff, beq_iff_eq, bne_iff_ne, beq_eq_false_iff_ne, bne_eq_false_iff_eq, ne_eq, Decidable.not_not, Bool.decide_eq_true] at h4_
          first | done | omega | (exfalso; revert h4_; simp; (first | done | omega))
        · try simp only [decide_eq_true_eq, decide_eq_false_iff_not, Bool.not_eq_true', Bool.not_eq_false', Bool.and_eq_true, Bool.or_eq_true, Bool.and_eq_false_iff, Bool.or_eq_false_iff, beq_iff_eq, bne_iff_ne, beq_eq_false_iff_ne, bne_eq_false_iff_eq, ne_eq, Decidable.not_not, Bool.decide_eq_true] at h4_
          refine aw_skipT ?_
          refine aw_seq ?_
          refine aw_region ?_
          refine al_opd rfl rfl rfl (ao_fieldAddr fo_27_1 rfl) ?_
          first | refine al_opd rfl rfl rfl (ao_load (v := .slice _ _ _) Try.isAgg23 (by rfl) (by exact HLp) (by rfl) (by exact RFp)) ?_ | refine al_opd rfl rfl rfl (ao_loadV (j := 0) (u := .slice _ _ _) Try.isAgg23 ha rfl rfl hy rfl) ?_ | refine al_opd rfl rfl rfl (ao_loadV (j := 1) (u := .slice _ _ _) Try.isAgg23 ha rfl rfl hy rfl) ?_ | refine al_opd rfl rfl rfl (ao_loadV (j := 0) (u := .slice _ _ _) Try.isAgg23 ha rfl rfl hx rfl) ?_ | refine al_opd rfl rfl rfl (ao_loadV (j := 1) (u := .slice _ _ _) Try.isAgg23 ha rfl rfl hx rfl) ?_
          refine al_opd rfl rfl rfl (ao_mv (v := .int _ _) rfl) ?_
          first | refine al_opd rfl rfl rfl (ao_indexAddrS Try.underlying23 Try.sizeOf22 rfl rfl (by exact IXp) (by exact IXp)) ?_ | refine al_opd rfl rfl rfl (ao_indexV Try.underlying23 Try.sizeOf22 rfl rfl ha (by exact IXp) (by exact IXp)) ?_
          refine al_opd rfl rfl rfl (ao_loadV (j := 0) (u := .int _ _) Try.isAgg22 (ha0.mono (by exact SMp)) rfl rfl hx rfl) ?_
          refine al_opd rfl rfl rfl (ao_as (v := .int _ _) rfl) ?_
          refine al_nilT ?_
          refine aw_seq ?_
          refine aw_region ?_
          refine al_opd rfl rfl rfl (ao_mv (v := .int _ _) rfl) ?_
          refine al_opd rfl rfl rfl (ao_lit0 Try.underlying23 Try.sizeOf22 Try.zeroValue22 (by rfl) (by rfl) rfl) ?_
          refine al_opd rfl rfl rfl (ao_fieldAddr fo_27_1 rfl) ?_
          first | refine al_opd rfl rfl rfl (ao_load (v := .slice _ _ _) Try.isAgg23 (by rfl) (by exact HLp) (by rfl) (by exact RFp)) ?_ | refine al_opd rfl rfl rfl (ao_loadV (j := 0) (u := .slice _ _ _) Try.isAgg23 ha rfl rfl hy rfl) ?_ | refine al_opd rfl rfl rfl (ao_loadV (j := 1) (u := .slice _ _ _) Try.isAgg23 ha rfl rfl hy rfl) ?_ | refine al_opd rfl rfl rfl (ao_loadV (j := 0) (u := .slice _ _ _) Try.isAgg23 ha rfl rfl hx rfl) ?_ | refine al_opd rfl rfl rfl (ao_loadV (j := 1) (u := .slice _ _ _) Try.isAgg23 ha rfl rfl hx rfl) ?_
          refine al_opd rfl rfl rfl (ao_mv (v := .int _ _) rfl) ?_
          refine al_opd rfl rfl rfl ((ao_add rfl rfl).val (v' := .int .i64 ((k + 1 : Nat) : Int)) (nw_i64 (by omega) (by omega))) ?_
          refine al_opd rfl rfl rfl (ao_sliceHi Try.underlying23 Try.sizeOf22 (by rfl) (by rfl) (by first | rfl | omega) (by exact HLp) (by rfl) (by exact IXp)) ?_
          refine al_opd rfl rfl rfl (ao_appZ (m := k + 1) (news := fl i16 (ks.take (k + 1))) Try.underlying23 ⟨_, Try.underlying23⟩ elem22 (by rfl) (by rfl) (srcn ((Sl.part (i := 0) i16_len (by exact HLp) rfl rfl (by simp) rfl (by simp; omega) : Sl _ i16 1 (.slice (some ⟨lb, 0, none⟩) (k + 1) (k + 1 + 1)) (ks.take (k + 1))).src i16_len (by decide)) htl) (by omega) (by omega) (by omega)) ?_
          refine al_opd rfl rfl rfl (ao_build (A := #[.int .i16 x, .slice (some ⟨H.next + 4, 0, none⟩) (k + 1) (k + 1 + 1)]) Try.zeroValue27 (by rfl) (by first | rfl | kernel_rfl) (by rfl) (by first | rfl | kernel_rfl)) ?_
          refine al_opd rfl rfl rfl (ao_alloca (zv27) (by rfl)) ?_
          first | refine al_opd rfl rfl rfl ((ao_storeL Try.sizeOf27 (by rfl) (by rfl) (by exact HLp) (by exact RFp) (by exact RFp) (by exact RFp)).to (SetR.eq (by exact SRp))) ?_ | refine al_opd rfl rfl rfl ((ao_storeP (ds := [.int _ _, .slice _ _ _]) Try.sizeOf27 (by rfl) (by rfl) (by exact HLp) (by exact RFp) (by exact RFp) (by exact LTp)).to (SetR.eq (by exact SRp))) ?_
          refine al_nilT ?_
          refine aw_seq ?_
          refine aw_region ?_
          refine al_opd rfl rfl rfl (ao_fieldAddr fo_27_0 rfl) ?_
          first | refine al_opd rfl rfl rfl (ao_load (v := .int _ _) Try.isAgg22 (by rfl) (by exact HLp) (by rfl) (by exact RFp)) ?_ | refine al_opd rfl rfl rfl (ao_loadV (j := 0) (u := .int _ _) Try.isAgg22 ha rfl rfl hy rfl) ?_ | refine al_opd rfl rfl rfl (ao_loadV (j := 1) (u := .int _ _) Try.isAgg22 ha rfl rfl hy rfl) ?_ | refine al_opd rfl rfl rfl (ao_loadV (j := 0) (u := .int _ _) Try.isAgg22 ha rfl rfl hx rfl) ?_ | refine al_opd rfl rfl rfl (ao_loadV (j := 1) (u := .int _ _) Try.isAgg22 ha rfl rfl hx rfl) ?_
          refine al_opd rfl rfl rfl (ao_mv (v := .int _ _) rfl) ?_
          first | refine al_opd rfl rfl rfl ((ao_sub rfl rfl).val (nw_i16 BDp BDp)) ?_ | refine al_opd rfl rfl rfl (ao_sub rfl rfl) ?_
          refine al_opd rfl rfl rfl (ao_build (A := #[.int .i16 (L - x), .slice none 0 0]) Try.zeroValue27 (by rfl) (by first | rfl | kernel_rfl) (by rfl) (by first | rfl | kernel_rfl)) ?_
          refine al_opd rfl rfl rfl (ao_alloca (zv27) (by rfl)) ?_
          first | refine al_opd rfl rfl rfl ((ao_storeL Try.sizeOf27 (by rfl) (by rfl) (by exact HLp) (by exact RFp) (by exact RFp) (by exact RFp)).to (SetR.eq (by exact SRp))) ?_ | refine al_opd rfl rfl rfl ((ao_storeP (ds := [.int _ _, .slice _ _ _]) Try.sizeOf27 (by rfl) (by rfl) (by exact HLp) (by exact RFp) (by exact RFp) (by exact LTp)).to (SetR.eq (by exact SRp))) ?_
          refine al_nilT ?_
          refine aw_seq ?_
          refine aw_seq ?_
          refine aw_region ?_
          refine al_opd rfl rfl rfl (ao_mv (v := .int _ _) rfl) ?_
          refine al_opd rfl rfl rfl (ao_as (v := .int _ _) rfl) ?_
          refine al_nilT ?_
          refine aw_block ?_
          refine aw_loop (fun (gk : Nat) (fr : AFr) (G : AHeap) => ∃ get : Nat → Value, fr = ⟨74, get⟩ ∧ (∃ i : Nat, k + i ≤ ks.length ∧ gk = ks.length - (k + i) ∧ Same H.next H G ∧ H.next + 7 ≤ G.next ∧ G.blk H.next = some (.cells [.int .i16 L, .slice (some ⟨lb, 0, none⟩) ks.length c'] 1) ∧ G.blk (H.next + 1) = some (.cells [.int .i16 0, .slice none 0 0] 1) ∧ G.blk (H.next + 2) = some (.cells [.int .i16 0, .slice none 0 0] 1) ∧ G.blk (H.next + 4) = some (.cells (fl i16 (ks.take (k + 1))) 1) ∧ G.blk (H.next + 5) = some (.cells [.int .i16 x, .slice (some ⟨H.next + 4, 0, none⟩) (k + 1) (k + 1 + 1)] 1) ∧ ((i = 0 ∧ G.blk (H.next + 6) = some (.cells [.int .i16 (L - x), .slice none 0 0] 1)) ∨ (0 < i ∧ ∃ pb c, H.next + 7 ≤ pb ∧ i ≤ c ∧ G.blk (H.next + 6) = some (.cells [.int .i16 (L - x), .slice (some ⟨pb, 0, none⟩) i c] 1) ∧ G.blk pb = some (.cells (fl i16 ((cutB ks k x).take i)) 1))) ∧ get 2 = .pointer (some ⟨H.next, 0, none⟩) ∧ get 4 = .pointer (some ⟨H.next + 1, 0, none⟩) ∧ get 5 = .pointer (some ⟨H.next + 2, 0, none⟩) ∧ get 7 = .int .i64 ((ks.length : Int) - 1) ∧ get 8 = .int .i16 x ∧ get 9 = .pointer (some ⟨H.next + 5, 0, none⟩) ∧ get 10 = .pointer (some ⟨H.next + 6, 0, none⟩) ∧ get 11 = .int .i64 ((k + i : Nat) : Int))) (ks.length - k) ⟨_, rfl, ?_⟩ ?_
          · exact ⟨0, by omega, rfl, by exact SMp, by exact LEp, by exact HLp, by exact HLp, by exact HLp, by exact HLp, by exact HLp, .inl ⟨rfl, by exact HLp⟩, rfl, rfl, rfl, rfl, rfl, rfl, rfl, rfl⟩
          · rintro gk fr G ⟨get, rfl, i, hi, rfl, hG, hnx, hb0, hb1, hb2, hb4, hb5, hcs, g2, g4, g5, g7, g8, g9, g10, g11⟩
            have ha : Sl G i16 1 (.slice (some ⟨lb, 0, none⟩) ks.length c') ks := ha0.mono hG
            refine aw_slot (d := 2) (v := .pointer (some ⟨H.next, 0, none⟩)) (by first | assumption | rfl) ?_
            refine aw_slot (d := 4) (v := .pointer (some ⟨H.next + 1, 0, none⟩)) (by first | assumption | rfl) ?_
            refine aw_slot (d := 5) (v := .pointer (some ⟨H.next + 2, 0, none⟩)) (by first | assumption | rfl) ?_
            refine aw_slot (d := 7) (v := .int .i64 ((ks.length : Int) - 1)) (by first | assumption | rfl) ?_
            refine aw_slot (d := 8) (v := .int .i16 x) (by first | assumption | rfl) ?_
            refine aw_slot (d := 9) (v := .pointer (some ⟨H.next + 5, 0, none⟩)) (by first | assumption | rfl) ?_
            refine aw_slot (d := 10) (v := .pointer (some ⟨H.next + 6, 0, none⟩)) (by first | assumption | rfl) ?_
            refine aw_slot (d := 11) (v := .int .i64 ((k + i : Nat) : Int)) (by first | assumption | rfl) ?_
            rcases hcs with ⟨hi0, hk6⟩ | ⟨hi0, pb, c, hpb, hc, hk6, hkb⟩
            · try skip
              subst hi0
              refine aw_seq ?_
              refine aw_seq ?_
              refine aw_region ?_
              refine al_opd rfl rfl rfl (ao_mv (v := .int _ _) rfl) ?_
              refine al_opd rfl rfl rfl (ao_mv (v := .int _ _) rfl) ?_
              refine al_opd rfl rfl rfl (ao_leq rfl rfl) ?_
              refine al_nilT ?_
              refine aw_cond rfl (fun h5_ => ?_) (fun h5_ => ?_)
              · try simp only [decide_eq_true_eq, decide_eq_false_iff_not, Bool.not_eq_true', Bool.not_eq_false', Bool.and_eq_true, Bool.or_eq_true, Bool.and_eq_false_iff, Bool.or_eq_false_iff, beq_iff_eq, bne_iff_ne, beq_eq_false_iff_ne, bne_eq_false_iff_eq, ne_eq, Decidable.not_not, Bool.decide_eq_true] at h5_
                obtain ⟨y, hy⟩ := get_lt (show k + 0 < ks.length by omega)
                have bY := hv.bnd hy
                refine aw_skipT ?_
                refine aw_seq ?_
                refine aw_block ?_
                refine aw_draw (m := 10) mo (by kernel_rfl) rfl (fun _ _ _ h => h) ?_
                refine dw_opd rfl rfl rfl (ao_fieldAddr fo_27_1 rfl) ?_
                first | refine dw_opd rfl rfl rfl (ao_load (v := .slice _ _ _) Try.isAgg23 (by rfl) (by exact HLp) (by rfl) (by exact RFp)) ?_ | refine dw_opd rfl rfl rfl (ao_loadV (j := 0) (u := .slice _ _ _) Try.isAgg23 ha rfl rfl hy rfl) ?_ | refine dw_opd rfl rfl rfl (ao_loadV (j := 1) (u := .slice _ _ _) Try.isAgg23 ha rfl rfl hy rfl) ?_ | refine dw_opd rfl rfl rfl (ao_loadV (j := 0) (u := .slice _ _ _) Try.isAgg23 ha rfl rfl hx rfl) ?_ | refine dw_opd rfl rfl rfl (ao_loadV (j := 1) (u := .slice _ _ _) Try.isAgg23 ha rfl rfl hx rfl) ?_
                refine dw_opd rfl rfl rfl (ao_fieldAddr fo_27_1 rfl) ?_
                first | refine dw_opd rfl rfl rfl (ao_load (v := .slice _ _ _) Try.isAgg23 (by rfl) (by exact HLp) (by rfl) (by exact RFp)) ?_ | refine dw_opd rfl rfl rfl (ao_loadV (j := 0) (u := .slice _ _ _) Try.isAgg23 ha rfl rfl hy rfl) ?_ | refine dw_opd rfl rfl rfl (ao_loadV (j := 1) (u := .slice _ _ _) Try.isAgg23 ha rfl rfl hy rfl) ?_ | refine dw_opd rfl rfl rfl (ao_loadV (j := 0) (u := .slice _ _ _) Try.isAgg23 ha rfl rfl hx rfl) ?_ | refine dw_opd rfl rfl rfl (ao_loadV (j := 1) (u := .slice _ _ _) Try.isAgg23 ha rfl rfl hx rfl) ?_
                refine dw_opd rfl rfl rfl (ao_mv (v := .int _ _) rfl) ?_
                first | refine dw_opd rfl rfl rfl (ao_indexAddrS Try.underlying23 Try.sizeOf22 rfl rfl (by exact IXp) (by exact IXp)) ?_ | refine dw_opd rfl rfl rfl (ao_indexV Try.underlying23 Try.sizeOf22 rfl rfl ha (by exact IXp) (by exact IXp)) ?_
                first | refine dw_opd rfl rfl rfl (ao_load (v := .int _ _) Try.isAgg22 (by rfl) (by exact HLp) (by rfl) (by exact RFp)) ?_ | refine dw_opd rfl rfl rfl (ao_loadV (j := 0) (u := .int _ _) Try.isAgg22 ha rfl rfl hy rfl) ?_ | refine dw_opd rfl rfl rfl (ao_loadV (j := 1) (u := .int _ _) Try.isAgg22 ha rfl rfl hy rfl) ?_ | refine dw_opd rfl rfl rfl (ao_loadV (j := 0) (u := .int _ _) Try.isAgg22 ha rfl rfl hx rfl) ?_ | refine dw_opd rfl rfl rfl (ao_loadV (j := 1) (u := .int _ _) Try.isAgg22 ha rfl rfl hx rfl) ?_
                refine dw_opd rfl rfl rfl (ao_mv (v := .int _ _) rfl) ?_
                first | refine dw_opd rfl rfl rfl ((ao_sub rfl rfl).val (nw_i16 BDp BDp)) ?_ | refine dw_opd rfl rfl rfl (ao_sub rfl rfl) ?_
                refine dw_opn rfl rfl rfl (ao_lit1 (v := .int _ _) Try.underlying23 Try.sizeOf22 Try.zeroValue22 (by rfl) (by rfl) rfl rfl (by rfl) (by exact RFp)) ?_
                refine dw_end ?_
                first | refine al_opd rfl rfl rfl (ao_appN Try.underlying23 ⟨_, Try.underlying23⟩ elem22 (by rfl) (by rfl) (by exact SCp) (by exact IXp) (by exact BDp) (by exact BDp)) ?_ | refine al_opd rfl rfl rfl (ao_appC Try.underlying23 ⟨_, Try.underlying23⟩ elem22 (by rfl) (by rfl) (by exact HLp) (by (rw [fl_len i16_len, List.length_take]; omega)) (by exact SCp) (by first | rfl | simp [isOne]) (by exact BDp) (by exact BDp)) ?_
                refine al_opd rfl rfl rfl (ao_fieldAddr fo_27_1 rfl) ?_
                refine al_opd rfl rfl rfl ((ao_store1 (v := .slice _ _ _) Try.sizeOf23 (by rfl) (by rfl) (by exact HLp) (by rfl) (by exact LTp)).to (SetR.eq (by exact SRp))) ?_
                refine al_nilB ?_
                refine thenA_n ?_
                refine aw_region ?_
                refine al_opd rfl rfl rfl (ao_mv (v := .int _ _) rfl) ?_
                first | refine al_opd rfl rfl rfl ((ao_add rfl rfl).val (nw_i64 BDp BDp)) ?_ | refine al_opd rfl rfl rfl (ao_add rfl rfl) ?_
                refine al_opd rfl rfl rfl (ao_as (v := .int _ _) rfl) ?_
                refine al_nilT ?_
                refine ⟨_, ?_, _, rfl, 0 + 1, by omega, rfl, by exact SMp, by exact LEp, by exact HLp, by exact HLp, by exact HLp, by exact HLp, by exact HLp, .inr ⟨by omega, _, _, ?_, ?_, by exact HLp, ?_⟩, rfl, rfl, rfl, rfl, rfl, rfl, rfl, by rfl⟩
                · omega
                · exact LNp
                · omega
                · rw [← app_snoc (e := i16) (k := 0) (cutB_at (i := 0) hy)]; exact (by exact HLp)
              · try simp only [decide_eq_true_eq, decide_eq_false_iff_not, Bool.not_eq_true', Bool.not_eq_false', Bool.and_eq_true, Bool.or_eq_true, Bool.and_eq_false_iff, Bool.or_eq_false_iff, beq_iff_eq, bne_iff_ne, beq_eq_false_iff_ne, bne_eq_false_iff_eq, ne_eq, Decidable.not_not, Bool.decide_eq_true] at h5_
                first | done | omega | (exfalso; revert h5_; simp; (first | done | omega))
            · try skip
              have hltb := AHeap.lt hkb
              refine aw_seq ?_
              refine aw_seq ?_
              refine aw_region ?_
              refine al_opd rfl rfl rfl (ao_mv (v := .int _ _) rfl) ?_
              refine al_opd rfl rfl rfl (ao_mv (v := .int _ _) rfl) ?_
              refine al_opd rfl rfl rfl (ao_leq rfl rfl) ?_
              refine al_nilT ?_
              refine aw_cond rfl (fun h6_ => ?_) (fun h6_ => ?_)
              · try simp only [decide_eq_true_eq, decide_eq_false_iff_not, Bool.not_eq_true', Bool.not_eq_false', Bool.and_eq_true, Bool.or_eq_true, Bool.and_eq_false_iff, Bool.or_eq_false_iff, beq_iff_eq, bne_iff_ne, beq_eq_false_iff_ne, bne_eq_false_iff_eq, ne_eq, Decidable.not_not, Bool.decide_eq_true] at h6_
                obtain ⟨y, hy⟩ := get_lt (show k + i < ks.length by omega)
                have bY := hv.bnd hy
                refine aw_skipT ?_
                refine aw_seq ?_
                refine aw_block ?_
                refine aw_draw (m := 10) mo (by kernel_rfl) rfl (fun _ _ _ h => h) ?_
                refine dw_opd rfl rfl rfl (ao_fieldAddr fo_27_1 rfl) ?_
                first | refine dw_opd rfl rfl rfl (ao_load (v := .slice _ _ _) Try.isAgg23 (by rfl) (by exact HLp) (by rfl) (by exact RFp)) ?_ | refine dw_opd rfl rfl rfl (ao_loadV (j := 0) (u := .slice _ _ _) Try.isAgg23 ha rfl rfl hy rfl) ?_ | refine dw_opd rfl rfl rfl (ao_loadV (j := 1) (u := .slice _ _ _) Try.isAgg23 ha rfl rfl hy rfl) ?_ | refine dw_opd rfl rfl rfl (ao_loadV (j := 0) (u := .slice _ _ _) Try.isAgg23 ha rfl rfl hx rfl) ?_ | refine dw_opd rfl rfl rfl (ao_loadV (j := 1) (u := .slice _ _ _) Try.isAgg23 ha rfl rfl hx rfl) ?_
                refine dw_opd rfl rfl rfl (ao_fieldAddr fo_27_1 rfl) ?_
                first | refine dw_opd rfl rfl rfl (ao_load (v := .slice _ _ _) Try.isAgg23 (by rfl) (by exact HLp) (by rfl) (by exact RFp)) ?_ | refine dw_opd rfl rfl rfl (ao_loadV (j := 0) (u := .slice _ _ _) Try.isAgg23 ha rfl rfl hy rfl) ?_ | refine dw_opd rfl rfl rfl (ao_loadV (j := 1) (u := .slice _ _ _) Try.isAgg23 ha rfl rfl hy rfl) ?_ | refine dw_opd rfl rfl rfl (ao_loadV (j := 0) (u := .slice _ _ _) Try.isAgg23 ha rfl rfl hx rfl) ?_ | refine dw_opd rfl rfl rfl (ao_loadV (j := 1) (u := .slice _ _ _) Try.isAgg23 ha rfl rfl hx rfl) ?_
                refine dw_opd rfl rfl rfl (ao_mv (v := .int _ _) rfl) ?_
                first | refine dw_opd rfl rfl rfl (ao_indexAddrS Try.underlying23 Try.sizeOf22 rfl rfl (by exact IXp) (by exact IXp)) ?_ | refine dw_opd rfl rfl rfl (ao_indexV Try.underlying23 Try.sizeOf22 rfl rfl ha (by exact IXp) (by exact IXp)) ?_
                first | refine dw_opd rfl rfl rfl (ao_load (v := .int _ _) Try.isAgg22 (by rfl) (by exact HLp) (by rfl) (by exact RFp)) ?_ | refine dw_opd rfl rfl rfl (ao_loadV (j := 0) (u := .int _ _) Try.isAgg22 ha rfl rfl hy rfl) ?_ | refine dw_opd rfl rfl rfl (ao_loadV (j := 1) (u := .int _ _) Try.isAgg22 ha rfl rfl hy rfl) ?_ | refine dw_opd rfl rfl rfl (ao_loadV (j := 0) (u := .int _ _) Try.isAgg22 ha rfl rfl hx rfl) ?_ | refine dw_opd rfl rfl rfl (ao_loadV (j := 1) (u := .int _ _) Try.isAgg22 ha rfl rfl hx rfl) ?_
                refine dw_opd rfl rfl rfl (ao_mv (v := .int _ _) rfl) ?_
                first | refine dw_opd rfl rfl rfl ((ao_sub rfl rfl).val (nw_i16 BDp BDp)) ?_ | refine dw_opd rfl rfl rfl (ao_sub rfl rfl) ?_
                refine dw_opn rfl rfl rfl (ao_lit1 (v := .int _ _) Try.underlying23 Try.sizeOf22 Try.zeroValue22 (by rfl) (by rfl) rfl rfl (by rfl) (by exact RFp)) ?_
                refine dw_end ?_
                first | refine al_opd rfl rfl rfl (ao_appN Try.underlying23 ⟨_, Try.underlying23⟩ elem22 (by rfl) (by rfl) (by exact SCp) (by exact IXp) (by exact BDp) (by exact BDp)) ?_ | refine al_opd rfl rfl rfl (ao_appC Try.underlying23 ⟨_, Try.underlying23⟩ elem22 (by rfl) (by rfl) (by exact HLp) (by (rw [fl_len i16_len, List.length_take]; omega)) (by exact SCp) (by first | rfl | simp [isOne]) (by exact BDp) (by exact BDp)) ?_
                refine al_opd rfl rfl rfl (ao_fieldAddr fo_27_1 rfl) ?_
                refine al_opd rfl rfl rfl ((ao_store1 (v := .slice _ _ _) Try.sizeOf23 (by rfl) (by rfl) (by exact HLp) (by rfl) (by exact LTp)).to (SetR.eq (by exact SRp))) ?_
                refine al_nilB ?_
                refine thenA_n ?_
                refine aw_region ?_
                refine al_opd rfl rfl rfl (ao_mv (v := .int _ _) rfl) ?_
                first | refine al_opd rfl rfl rfl ((ao_add rfl rfl).val (nw_i64 BDp BDp)) ?_ | refine al_opd rfl rfl rfl (ao_add rfl rfl) ?_
                refine al_opd rfl rfl rfl (ao_as (v := .int _ _) rfl) ?_
                refine al_nilT ?_
                refine ⟨_, ?_, _, rfl, i + 1, by omega, rfl, by exact SMp, by exact LEp, by exact HLp, by exact HLp, by exact HLp, by exact HLp, by exact HLp, .inr ⟨by omega, _, _, ?_, ?_, by exact HLp, ?_⟩, rfl, rfl, rfl, rfl, rfl, rfl, rfl, by rfl⟩
                · omega
                · exact LNp
                · omega
                · rw [← app_snoc (e := i16) (cutB_at hy)]; exact (by exact HLp)
              · try simp only [decide_eq_true_eq, decide_eq_false_iff_not, Bool.not_eq_true', Bool.not_eq_false', Bool.and_eq_true, Bool.or_eq_true, Bool.and_eq_false_iff, Bool.or_eq_false_iff, beq_iff_eq, bne_iff_ne, beq_eq_false_iff_ne, bne_eq_false_iff_eq, ne_eq, Decidable.not_not, Bool.decide_eq_true] at h6_
                refine aw_exit ?_
                refine thenA_x ?_
                refine thenA_x ?_
                refine blockA_hit ?_
                refine thenA_n ?_
                refine aw_seq ?_
                refine aa_region mo ?_
                refine aa_two (i := 0) (j := 1) (by kernel_rfl) ?_ ?_
                · try skip
                  first | refine aa_o rfl rfl rfl rfl (ao_loada Try.isAgg27 Try.sizeOf27 rfl (by exact HLp) (by rfl) (by exact RFp)) ?_ | refine aa_o rfl rfl rfl rfl (ao_loadsV (A := #[.int _ _, .slice _ _ _]) Try.isAgg27 Try.sizeOf27 ha rfl hy rfl (by decide)) ?_ | refine aa_o rfl rfl rfl rfl (ao_loadsV (A := #[.int _ _, .slice _ _ _]) Try.isAgg27 Try.sizeOf27 ha rfl hx rfl (by decide)) ?_
                  refine aa_two (i := 1) (j := 2) (by kernel_rfl) ?_ ?_
                  · try skip
                    first | refine aa_o rfl rfl rfl rfl (ao_loada Try.isAgg27 Try.sizeOf27 rfl (by exact HLp) (by rfl) (by exact RFp)) ?_ | refine aa_o rfl rfl rfl rfl (ao_loadsV (A := #[.int _ _, .slice _ _ _]) Try.isAgg27 Try.sizeOf27 ha rfl hy rfl (by decide)) ?_ | refine aa_o rfl rfl rfl rfl (ao_loadsV (A := #[.int _ _, .slice _ _ _]) Try.isAgg27 Try.sizeOf27 ha rfl hx rfl (by decide)) ?_
                    refine aa_one (i := 2) (by kernel_rfl) ?_
                    first | refine aa_o rfl rfl rfl rfl ((ao_storeL Try.sizeOf27 (by rfl) (by rfl) (by exact HLp) (by exact RFp) (by exact RFp) (by exact RFp)).to (SetR.eq (by exact SRp))) ?_ | refine aa_o rfl rfl rfl rfl ((ao_storeP (ds := [.int _ _, .slice _ _ _]) Try.sizeOf27 (by rfl) (by rfl) (by exact HLp) (by exact RFp) (by exact RFp) (by exact LTp)).to (SetR.eq (by exact SRp))) ?_
                    refine aa_one (i := 3) (by kernel_rfl) ?_
                    first | refine aa_o rfl rfl rfl rfl ((ao_storeL Try.sizeOf27 (by rfl) (by rfl) (by exact HLp) (by exact RFp) (by exact RFp) (by exact RFp)).to (SetR.eq (by exact SRp))) ?_ | refine aa_o rfl rfl rfl rfl ((ao_storeP (ds := [.int _ _, .slice _ _ _]) Try.sizeOf27 (by rfl) (by rfl) (by exact HLp) (by exact RFp) (by exact RFp) (by exact LTp)).to (SetR.eq (by exact SRp))) ?_
                    refine aa_one (i := 4) (by kernel_rfl) ?_
                    refine aa_o rfl rfl rfl rfl (ao_as (v := .int _ _) rfl) ?_
                    refine aa_done (by kernel_rfl) ?_
                    refine thenA_n ?_
                    refine aw_ret ?_
                    refine ends3 rfl (rv_cella Try.isAgg27 Try.sizeOf27 rfl (by exact HLp) (by rfl) (by exact RFp)) (rv_cella Try.isAgg27 Try.sizeOf27 rfl (by exact HLp) (by rfl) (by exact RFp)) (rv_tmp (v := .int _ _) rfl) ?_
                    rw [List.take_of_length_le (by omega)] at hkb
                    obtain rfl : i = (cutB ks k x).length := by omega
                    exact ⟨by exact SMp, H.next + 4, pb, by omega, by omega, by omega, by exact HLp, by exact HLp, fun ρ h1 h2 => vr_tup3 (vr_agg2 (.int _ _) (by rw [htl]; exact vr_sl h1 (by omega) (by omega))) (vr_agg2 (.int _ _) (vr_sl h2 (by omega) (by omega))) (.int _ _)⟩
                  · try skip
                    first | refine aa_o rfl rfl rfl rfl ((ao_storeL Try.sizeOf27 (by rfl) (by rfl) (by exact HLp) (by exact RFp) (by exact RFp) (by exact RFp)).to (SetR.eq (by exact SRp))) ?_ | refine aa_o rfl rfl rfl rfl ((ao_storeP (ds := [.int _ _, .slice _ _ _]) Try.sizeOf27 (by rfl) (by rfl) (by exact HLp) (by exact RFp) (by exact RFp) (by exact LTp)).to (SetR.eq (by exact SRp))) ?_
                    refine aa_one (i := 1) (by kernel_rfl) ?_
                    first | refine aa_o rfl rfl rfl rfl (ao_loada Try.isAgg27 Try.sizeOf27 rfl (by exact HLp) (by rfl) (by exact RFp)) ?_ | refine aa_o rfl rfl rfl rfl (ao_loadsV (A := #[.int _ _, .slice _ _ _]) Try.isAgg27 Try.sizeOf27 ha rfl hy rfl (by decide)) ?_ | refine aa_o rfl rfl rfl rfl (ao_loadsV (A := #[.int _ _, .slice _ _ _]) Try.isAgg27 Try.sizeOf27 ha rfl hx rfl (by decide)) ?_
                    refine aa_one (i := 3) (by kernel_rfl) ?_
                    first | refine aa_o rfl rfl rfl rfl ((ao_storeL Try.sizeOf27 (by rfl) (by rfl) (by exact HLp) (by exact RFp) (by exact RFp) (by exact RFp)).to (SetR.eq (by exact SRp))) ?_ | refine aa_o rfl rfl rfl rfl ((ao_storeP (ds := [.int _ _, .slice _ _ _]) Try.sizeOf27 (by rfl) (by rfl) (by exact HLp) (by exact RFp) (by exact RFp) (by exact LTp)).to (SetR.eq (by exact SRp))) ?_
                    refine aa_one (i := 4) (by kernel_rfl) ?_
                    refine aa_o rfl rfl rfl rfl (ao_as (v := .int _ _) rfl) ?_
                    refine aa_done (by kernel_rfl) ?_
                    refine thenA_n ?_
                    refine aw_ret ?_
                    refine ends3 rfl (rv_cella Try.isAgg27 Try.sizeOf27 rfl (by exact HLp) (by rfl) (by exact RFp)) (rv_cella Try.isAgg27 Try.sizeOf27 rfl (by exact HLp) (by rfl) (by exact RFp)) (rv_tmp (v := .int _ _) rfl) ?_
                    rw [List.take_of_length_le (by omega)] at hkb
                    obtain rfl : i = (cutB ks k x).length := by omega
                    exact ⟨by exact SMp, H.next + 4, pb, by omega, by omega, by omega, by exact HLp, by exact HLp, fun ρ h1 h2 => vr_tup3 (vr_agg2 (.int _ _) (by rw [htl]; exact vr_sl h1 (by omega) (by omega))) (vr_agg2 (.int _ _) (vr_sl h2 (by omega) (by omega))) (.int _ _)⟩
                · try skip
                  first | refine aa_o rfl rfl rfl rfl (ao_loada Try.isAgg27 Try.sizeOf27 rfl (by exact HLp) (by rfl) (by exact RFp)) ?_ | refine aa_o rfl rfl rfl rfl (ao_loadsV (A := #[.int _ _, .slice _ _ _]) Try.isAgg27 Try.sizeOf27 ha rfl hy rfl (by decide)) ?_ | refine aa_o rfl rfl rfl rfl (ao_loadsV (A := #[.int _ _, .slice _ _ _]) Try.isAgg27 Try.sizeOf27 ha rfl hx rfl (by decide)) ?_
                  refine aa_one (i := 0) (by kernel_rfl) ?_
                  first | refine aa_o rfl rfl rfl rfl (ao_loada Try.isAgg27 Try.sizeOf27 rfl (by exact HLp) (by rfl) (by exact RFp)) ?_ | refine aa_o rfl rfl rfl rfl (ao_loadsV (A := #[.int _ _, .slice _ _ _]) Try.isAgg27 Try.sizeOf27 ha rfl hy rfl (by decide)) ?_ | refine aa_o rfl rfl rfl rfl (ao_loadsV (A := #[.int _ _, .slice _ _ _]) Try.isAgg27 Try.sizeOf27 ha rfl hx rfl (by decide)) ?_
                  refine aa_one (i := 2) (by kernel_rfl) ?_
                  first | refine aa_o rfl rfl rfl rfl ((ao_storeL Try.sizeOf27 (by rfl) (by rfl) (by exact HLp) (by exact RFp) (by exact RFp) (by exact RFp)).to (SetR.eq (by exact SRp))) ?_ | refine aa_o rfl rfl rfl rfl ((ao_storeP (ds := [.int _ _, .slice _ _ _]) Try.sizeOf27 (by rfl) (by rfl) (by exact HLp) (by exact RFp) (by exact RFp) (by exact LTp)).to (SetR.eq (by exact SRp))) ?_
                  refine aa_one (i := 3) (by kernel_rfl) ?_
                  first | refine aa_o rfl rfl rfl rfl ((ao_storeL Try.sizeOf27 (by rfl) (by rfl) (by exact HLp) (by exact RFp) (by exact RFp) (by exact RFp)).to (SetR.eq (by exact SRp))) ?_ | refine aa_o rfl rfl rfl rfl ((ao_storeP (ds := [.int _ _, .slice _ _ _]) Try.sizeOf27 (by rfl) (by rfl) (by exact HLp) (by exact RFp) (by exact RFp) (by exact LTp)).to (SetR.eq (by exact SRp))) ?_
                  refine aa_one (i := 4) (by kernel_rfl) ?_
                  refine aa_o rfl rfl rfl rfl (ao_as (v := .int _ _) rfl) ?_
                  refine aa_done (by kernel_rfl) ?_
                  refine thenA_n ?_
                  refine aw_ret ?_
                  refine ends3 rfl (rv_cella Try.isAgg27 Try.sizeOf27 rfl (by exact HLp) (by rfl) (by exact RFp)) (rv_cella Try.isAgg27 Try.sizeOf27 rfl (by exact HLp) (by rfl) (by exact RFp)) (rv_tmp (v := .int _ _) rfl) ?_
                  rw [List.take_of_length_le (by omega)] at hkb
                  obtain rfl : i = (cutB ks k x).length := by omega
                  exact ⟨by exact SMp, H.next + 4, pb, by omega, by omega, by omega, by exact HLp, by exact HLp, fun ρ h1 h2 => vr_tup3 (vr_agg2 (.int _ _) (by rw [htl]; exact vr_sl h1 (by omega) (by omega))) (vr_agg2 (.int _ _) (vr_sl h2 (by omega) (by omega))) (.int _ _)⟩

-- spec.CutRope
theorem specCut1_c {L m : Int} {ks : List Int} {lb c' : Nat} {H : AHeap} (hk0 : H.blk lb = some (.cells (fl i16 ks) 1)) (hcc : ks.length ≤ c') (hlen : ks.length ≤ 4194304) (hL : -32768 ≤ L ∧ L ≤ 32767) (hv : ¬ okRope L ks) : ACd Try.prog 6 [.agg #[.int .i16 L, .slice (some ⟨lb, 0, none⟩) ks.length c'], .int .i64 m] H (.tuple #[.agg #[.int .i16 0, .slice none 0 0], .agg #[.int .i16 0, .slice none 0 0], .int .i64 1]) (H) := by
  have hlt0 := AHeap.lt hk0
  have ha0 : Sl H i16 1 (.slice (some ⟨lb, 0, none⟩) ks.length c') ks := Sl.full i16_len hk0 rfl rfl rfl
  refine ac_gc0 (fun β => VR.plainT β (by first | rfl | simp [plainT, plainV, plain1])) (ac_body Try.func6 rfl Try.ntmps6 rfl ?_)
  refine aw_seq ?_
  refine aw_region ?_
  refine al_opd rfl rfl rfl (ao_boxa (by rfl)) ?_
  refine al_opd rfl rfl rfl (ao_alloca (zv27) (by rfl)) ?_
  refine al_opd rfl rfl rfl (ao_alloca (zv27) (by rfl)) ?_
  refine al_opd rfl rfl rfl (ao_as (v := .int _ _) rfl) ?_
  refine al_nilT ?_
  refine aw_seq ?_
  refine aw_seq ?_
  refine aw_region ?_
  refine al_opd rfl rfl rfl (ao_calld (l03Ok_c (L := L) (v := .slice (some ⟨lb, 0, none⟩) ks.length c') (ks := ks) (b := false) (ha0.mono (by exact SMp)) hlen (by exact HLp) hL (no hv)) Try.call20 rfl rfl) ?_
  refine al_opd rfl rfl rfl (ao_not rfl) ?_
  refine al_nilT ?_
  refine aw_cond rfl (fun h1_ => ?_) (fun h1_ => ?_)
  · try simp only [decide_eq_true_eq, decide_eq_false_iff_not, Bool.not_eq_true', Bool.not_eq_false', Bool.and_eq_true, Bool.or_eq_true, Bool.and_eq_false_iff, Bool.or_eq_false_iff, beq_iff_eq, bne_iff_ne, beq_eq_false_iff_ne, bne_eq_false_iff_eq, ne_eq, Decidable.not_not, Bool.decide_eq_true] at h1_
    refine aw_seq ?_
    refine aw_region ?_
    refine al_opd rfl rfl rfl (ao_build (A := #[.int _ _, .slice _ _ _]) Try.zeroValue27 (by rfl) (by first | rfl | kernel_rfl) (by rfl) (by first | rfl | kernel_rfl)) ?_
    refine al_opd rfl rfl rfl (ao_build (A := #[.int _ _, .slice _ _ _]) Try.zeroValue27 (by rfl) (by first | rfl | kernel_rfl) (by rfl) (by first | rfl | kernel_rfl)) ?_
    first | refine al_opd rfl rfl rfl ((ao_storeL Try.sizeOf27 (by rfl) (by rfl) (by exact HLp) (by exact RFp) (by exact RFp) (by exact RFp)).to (SetR.eq (by exact SRp))) ?_ | refine al_opd rfl rfl rfl ((ao_storeP (ds := [.int _ _, .slice _ _ _]) Try.sizeOf27 (by rfl) (by rfl) (by exact HLp) (by exact RFp) (by exact RFp) (by exact LTp)).to (SetR.eq (by exact SRp))) ?_
    first | refine al_opd rfl rfl rfl ((ao_storeL Try.sizeOf27 (by rfl) (by rfl) (by exact HLp) (by exact RFp) (by exact RFp) (by exact RFp)).to (SetR.eq (by exact SRp))) ?_ | refine al_opd rfl rfl rfl ((ao_storeP (ds := [.int _ _, .slice _ _ _]) Try.sizeOf27 (by rfl) (by rfl) (by exact HLp) (by exact RFp) (by exact RFp) (by exact LTp)).to (SetR.eq (by exact SRp))) ?_
    refine al_opd rfl rfl rfl (ao_as (v := .int _ _) rfl) ?_
    refine al_nilT ?_
    refine aw_ret ?_
    refine thenA_r ?_
    refine ends3 rfl (rv_cella Try.isAgg27 Try.sizeOf27 rfl (by exact HLp) (by rfl) (by exact RFp)) (rv_cella Try.isAgg27 Try.sizeOf27 rfl (by exact HLp) (by rfl) (by exact RFp)) (rv_tmp (v := .int _ _) rfl) ?_
    exact ⟨by first | rfl | (simp [*]; (first | done | fail)), by exact SMp⟩
  · try simp only [decide_eq_true_eq, decide_eq_false_iff_not, Bool.not_eq_true', Bool.not_eq_false', Bool.and_eq_true, Bool.or_eq_true, Bool.and_eq_false_iff, Bool.or_eq_false_iff, beq_iff_eq, bne_iff_ne, beq_eq_false_iff_ne, bne_eq_false_iff_eq, ne_eq, Decidable.not_not, Bool.decide_eq_true] at h1_
    first | done | omega | (exfalso; revert h1_; simp; (first | done | omega))

-- spec.CutRope
theorem specCut2_c {L m : Int} {ks : List Int} {lb c' : Nat} {H : AHeap} (hk0 : H.blk lb = some (.cells (fl i16 ks) 1)) (hcc : ks.length ≤ c') (hlen : ks.length ≤ 4194304) (hL : -32768 ≤ L ∧ L ≤ 32767) (hv : okRope L ks) (hm : ¬ (0 ≤ m ∧ m ≤ (ks.length : Int) - 1)) : ACd Try.prog 6 [.agg #[.int .i16 L, .slice (some ⟨lb, 0, none⟩) ks.length c'], .int .i64 m] H (.tuple #[.agg #[.int .i16 0, .slice none 0 0], .agg #[.int .i16 0, .slice none 0 0], .int .i64 2]) (H) := by
  have hlt0 := AHeap.lt hk0
  have ha0 : Sl H i16 1 (.slice (some ⟨lb, 0, none⟩) ks.length c') ks := Sl.full i16_len hk0 rfl rfl rfl
  have ⟨v1, v2, v3, v4, v5, v6, v7⟩ := hv
  refine ac_gc0 (fun β => VR.plainT β (by first | rfl | simp [plainT, plainV, plain1])) (ac_body Try.func6 rfl Try.ntmps6 rfl ?_)
  refine aw_seq ?_
  refine aw_region ?_
  refine al_opd rfl rfl rfl (ao_boxa (by rfl)) ?_
  refine al_opd rfl rfl rfl (ao_alloca (zv27) (by rfl)) ?_
  refine al_opd rfl rfl rfl (ao_alloca (zv27) (by rfl)) ?_
  refine al_opd rfl rfl rfl (ao_as (v := .int _ _) rfl) ?_
  refine al_nilT ?_
  refine aw_seq ?_
  refine aw_seq ?_
  refine aw_region ?_
  refine al_opd rfl rfl rfl (ao_calld (l03Ok_c (L := L) (v := .slice (some ⟨lb, 0, none⟩) ks.length c') (ks := ks) (b := true) (ha0.mono (by exact SMp)) hlen (by exact HLp) hL (yes hv)) Try.call20 rfl rfl) ?_
  refine al_opd rfl rfl rfl (ao_not rfl) ?_
  refine al_nilT ?_
  refine aw_cond rfl (fun h1_ => ?_) (fun h1_ => ?_)
  · try simp only [decide_eq_true_eq, decide_eq_false_iff_not, Bool.not_eq_true', Bool.not_eq_false', Bool.and_eq_true, Bool.or_eq_true, Bool.and_eq_false_iff, Bool.or_eq_false_iff, beq_iff_eq, bne_iff_ne, beq_eq_false_iff_ne, bne_eq_false_iff_eq, ne_eq, Decidable.not_not, Bool.decide_eq_true] at h1_
    first | done | omega | (exfalso; revert h1_; simp; (first | done | omega))
  · try simp only [decide_eq_true_eq, decide_eq_false_iff_not, Bool.not_eq_true', Bool.not_eq_false', Bool.and_eq_true, Bool.or_eq_true, Bool.and_eq_false_iff, Bool.or_eq_false_iff, beq_iff_eq, bne_iff_ne, beq_eq_false_iff_ne, bne_eq_false_iff_eq, ne_eq, Decidable.not_not, Bool.decide_eq_true] at h1_
    refine aw_skipT ?_
    refine aw_seq ?_
    refine aw_region ?_
    refine al_opd rfl rfl rfl (ao_fieldAddr fo_27_1 rfl) ?_
    refine al_opd rfl rfl rfl (ao_load (v := .slice _ _ _) Try.isAgg23 (by rfl) (by exact HLp) (by rfl) (by exact RFp)) ?_
    first | refine al_opd rfl rfl rfl (ao_lenS Try.underlying23 (by rfl)) ?_ | refine al_opd rfl rfl rfl (ao_lenN Try.underlying23 (by rfl)) ?_
    first | refine al_opd rfl rfl rfl ((ao_sub rfl rfl).val (nw_i64 BDp BDp)) ?_ | refine al_opd rfl rfl rfl (ao_sub rfl rfl) ?_
    refine al_opd rfl rfl rfl (ao_as (v := .int _ _) rfl) ?_
    refine al_nilT ?_
    refine aw_seq ?_
    refine aw_seq ?_
    refine aw_region ?_
    refine al_opd rfl rfl rfl (ao_mv (v := .int _ _) rfl) ?_
    refine al_opd rfl rfl rfl (ao_mv (v := .int _ _) rfl) ?_
    refine al_opd rfl rfl rfl (ao_calld (l00In_c) Try.call21 rfl rfl) ?_
    refine al_opd rfl rfl rfl (ao_not rfl) ?_
    refine al_nilT ?_
    refine aw_cond rfl (fun h2_ => ?_) (fun h2_ => ?_)
    · try simp only [decide_eq_true_eq, decide_eq_false_iff_not, Bool.not_eq_true', Bool.not_eq_false', Bool.and_eq_true, Bool.or_eq_true, Bool.and_eq_false_iff, Bool.or_eq_false_iff, beq_iff_eq, bne_iff_ne, beq_eq_false_iff_ne, bne_eq_false_iff_eq, ne_eq, Decidable.not_not, Bool.decide_eq_true] at h2_
      refine aw_seq ?_
      refine aw_region ?_
      refine al_opd rfl rfl rfl (ao_build (A := #[.int _ _, .slice _ _ _]) Try.zeroValue27 (by rfl) (by first | rfl | kernel_rfl) (by rfl) (by first | rfl | kernel_rfl)) ?_
      refine al_opd rfl rfl rfl (ao_build (A := #[.int _ _, .slice _ _ _]) Try.zeroValue27 (by rfl) (by first | rfl | kernel_rfl) (by rfl) (by first | rfl | kernel_rfl)) ?_
      first | refine al_opd rfl rfl rfl ((ao_storeL Try.sizeOf27 (by rfl) (by rfl) (by exact HLp) (by exact RFp) (by exact RFp) (by exact RFp)).to (SetR.eq (by exact SRp))) ?_ | refine al_opd rfl rfl rfl ((ao_storeP (ds := [.int _ _, .slice _ _ _]) Try.sizeOf27 (by rfl) (by rfl) (by exact HLp) (by exact RFp) (by exact RFp) (by exact LTp)).to (SetR.eq (by exact SRp))) ?_
      first | refine al_opd rfl rfl rfl ((ao_storeL Try.sizeOf27 (by rfl) (by rfl) (by exact HLp) (by exact RFp) (by exact RFp) (by exact RFp)).to (SetR.eq (by exact SRp))) ?_ | refine al_opd rfl rfl rfl ((ao_storeP (ds := [.int _ _, .slice _ _ _]) Try.sizeOf27 (by rfl) (by rfl) (by exact HLp) (by exact RFp) (by exact RFp) (by exact LTp)).to (SetR.eq (by exact SRp))) ?_
      refine al_opd rfl rfl rfl (ao_as (v := .int _ _) rfl) ?_
      refine al_nilT ?_
      refine aw_ret ?_
      refine thenA_r ?_
      refine ends3 rfl (rv_cella Try.isAgg27 Try.sizeOf27 rfl (by exact HLp) (by rfl) (by exact RFp)) (rv_cella Try.isAgg27 Try.sizeOf27 rfl (by exact HLp) (by rfl) (by exact RFp)) (rv_tmp (v := .int _ _) rfl) ?_
      exact ⟨by first | rfl | (simp [*]; (first | done | fail)), by exact SMp⟩
    · try simp only [decide_eq_true_eq, decide_eq_false_iff_not, Bool.not_eq_true', Bool.not_eq_false', Bool.and_eq_true, Bool.or_eq_true, Bool.and_eq_false_iff, Bool.or_eq_false_iff, beq_iff_eq, bne_iff_ne, beq_eq_false_iff_ne, bne_eq_false_iff_eq, ne_eq, Decidable.not_not, Bool.decide_eq_true] at h2_
      first | done | omega | (exfalso; revert h2_; simp; (first | done | omega))

-- spec.CutRope
theorem specCut4_c {L m : Int} {ks : List Int} {lb c' : Nat} {H : AHeap} (hk0 : H.blk lb = some (.cells (fl i16 ks) 1)) (hcc : ks.length ≤ c') (hlen : ks.length ≤ 4194304) (hL : -32768 ≤ L ∧ L ≤ 32767) (hv : okRope L ks) (hm : m = 0 ∨ m = (ks.length : Int) - 1) : ACd Try.prog 6 [.agg #[.int .i16 L, .slice (some ⟨lb, 0, none⟩) ks.length c'], .int .i64 m] H (.tuple #[.agg #[.int .i16 0, .slice none 0 0], .agg #[.int .i16 0, .slice none 0 0], .int .i64 4]) (H) := by
  have hlt0 := AHeap.lt hk0
  have ha0 : Sl H i16 1 (.slice (some ⟨lb, 0, none⟩) ks.length c') ks := Sl.full i16_len hk0 rfl rfl rfl
  have ⟨v1, v2, v3, v4, v5, v6, v7⟩ := hv
  refine ac_gc0 (fun β => VR.plainT β (by first | rfl | simp [plainT, plainV, plain1])) (ac_body Try.func6 rfl Try.ntmps6 rfl ?_)
  refine aw_seq ?_
  refine aw_region ?_
  refine al_opd rfl rfl rfl (ao_boxa (by rfl)) ?_
  refine al_opd rfl rfl rfl (ao_alloca (zv27) (by rfl)) ?_
  refine al_opd rfl rfl rfl (ao_alloca (zv27) (by rfl)) ?_
  refine al_opd rfl rfl rfl (ao_as (v := .int _ _) rfl) ?_
  refine al_nilT ?_
  refine aw_seq ?_
  refine aw_seq ?_
  refine aw_region ?_
  refine al_opd rfl rfl rfl (ao_calld (l03Ok_c (L := L) (v := .slice (some ⟨lb, 0, none⟩) ks.length c') (ks := ks) (b := true) (ha0.mono (by exact SMp)) hlen (by exact HLp) hL (yes hv)) Try.call20 rfl rfl) ?_
  refine al_opd rfl rfl rfl (ao_not rfl) ?_
  refine al_nilT ?_
  refine aw_cond rfl (fun h1_ => ?_) (fun h1_ => ?_)
  · try simp only [decide_eq_true_eq, decide_eq_false_iff_not, Bool.not_eq_true', Bool.not_eq_false', Bool.and_eq_true, Bool.or_eq_true, Bool.and_eq_false_iff, Bool.or_eq_false_iff, beq_iff_eq, bne_iff_ne, beq_eq_false_iff_ne, bne_eq_false_iff_eq, ne_eq, Decidable.not_not, Bool.decide_eq_true] at h1_
    first | done | omega | (exfalso; revert h1_; simp; (first | done | omega))
  · try simp only [decide_eq_true_eq, decide_eq_false_iff_not, Bool.not_eq_true', Bool.not_eq_false', Bool.and_eq_true, Bool.or_eq_true, Bool.and_eq_false_iff, Bool.or_eq_false_iff, beq_iff_eq, bne_iff_ne, beq_eq_false_iff_ne, bne_eq_false_iff_eq, ne_eq, Decidable.not_not, Bool.decide_eq_true] at h1_
    refine aw_skipT ?_
    refine aw_seq ?_
    refine aw_region ?_
    refine al_opd rfl rfl rfl (ao_fieldAddr fo_27_1 rfl) ?_
    refine al_opd rfl rfl rfl (ao_load (v := .slice _ _ _) Try.isAgg23 (by rfl) (by exact HLp) (by rfl) (by exact RFp)) ?_
    first | refine al_opd rfl rfl rfl (ao_lenS Try.underlying23 (by rfl)) ?_ | refine al_opd rfl rfl rfl (ao_lenN Try.underlying23 (by rfl)) ?_
    first | refine al_opd rfl rfl rfl ((ao_sub rfl rfl).val (nw_i64 BDp BDp)) ?_ | refine al_opd rfl rfl rfl (ao_sub rfl rfl) ?_
    refine al_opd rfl rfl rfl (ao_as (v := .int _ _) rfl) ?_
    refine al_nilT ?_
    refine aw_seq ?_
    refine aw_seq ?_
    refine aw_region ?_
    refine al_opd rfl rfl rfl (ao_mv (v := .int _ _) rfl) ?_
    refine al_opd rfl rfl rfl (ao_mv (v := .int _ _) rfl) ?_
    refine al_opd rfl rfl rfl (ao_calld (l00In_c) Try.call21 rfl rfl) ?_
    refine al_opd rfl rfl rfl (ao_not rfl) ?_
    refine al_nilT ?_
    refine aw_cond rfl (fun h2_ => ?_) (fun h2_ => ?_)
    · try simp only [decide_eq_true_eq, decide_eq_false_iff_not, Bool.not_eq_true', Bool.not_eq_false', Bool.and_eq_true, Bool.or_eq_true, Bool.and_eq_false_iff, Bool.or_eq_false_iff, beq_iff_eq, bne_iff_ne, beq_eq_false_iff_ne, bne_eq_false_iff_eq, ne_eq, Decidable.not_not, Bool.decide_eq_true] at h2_
      first | done | omega | (exfalso; revert h2_; simp; (first | done | omega))
    · try simp only [decide_eq_true_eq, decide_eq_false_iff_not, Bool.not_eq_true', Bool.not_eq_false', Bool.and_eq_true, Bool.or_eq_true, Bool.and_eq_false_iff, Bool.or_eq_false_iff, beq_iff_eq, bne_iff_ne, beq_eq_false_iff_ne, bne_eq_false_iff_eq, ne_eq, Decidable.not_not, Bool.decide_eq_true] at h2_
      refine aw_skipT ?_
      refine aw_seq ?_
      refine aw_seq ?_
      refine aw_region ?_
      refine al_opd rfl rfl rfl (ao_mv (v := .int _ _) rfl) ?_
      refine al_opd rfl rfl rfl (ao_eql rfl rfl) ?_
      refine al_opd rfl rfl rfl (ao_mv (v := .bool _) rfl) ?_
      refine al_cases (d := 28) rfl (fun h3_ => ?_) (fun h3_ => ?_)
      · try simp only [decide_eq_true_eq, decide_eq_false_iff_not, Bool.not_eq_true', Bool.not_eq_false', Bool.and_eq_true, Bool.or_eq_true, Bool.and_eq_false_iff, Bool.or_eq_false_iff, beq_iff_eq, bne_iff_ne, beq_eq_false_iff_ne, bne_eq_false_iff_eq, ne_eq, Decidable.not_not, Bool.decide_eq_true] at h3_
        refine al_gno rfl rfl rfl rfl rfl ?_
        refine al_gno rfl rfl rfl rfl rfl ?_
        refine al_gno rfl rfl rfl rfl rfl ?_
        refine al_opd rfl rfl rfl (ao_pickT rfl (v := .bool _) rfl) ?_
        refine al_nilT ?_
        refine aw_condT (by rfl) ⟨_, rfl⟩ ?_
        refine aw_seq ?_
        refine aw_region ?_
        refine al_opd rfl rfl rfl (ao_build (A := #[.int _ _, .slice _ _ _]) Try.zeroValue27 (by rfl) (by first | rfl | kernel_rfl) (by rfl) (by first | rfl | kernel_rfl)) ?_
        refine al_opd rfl rfl rfl (ao_build (A := #[.int _ _, .slice _ _ _]) Try.zeroValue27 (by rfl) (by first | rfl | kernel_rfl) (by rfl) (by first | rfl | kernel_rfl)) ?_
        first | refine al_opd rfl rfl rfl ((ao_storeL Try.sizeOf27 (by rfl) (by rfl) (by exact HLp) (by exact RFp) (by exact RFp) (by exact RFp)).to (SetR.eq (by exact SRp))) ?_ | refine al_opd rfl rfl rfl ((ao_storeP (ds := [.int _ _, .slice _ _ _]) Try.sizeOf27 (by rfl) (by rfl) (by exact HLp) (by exact RFp) (by exact RFp) (by exact LTp)).to (SetR.eq (by exact SRp))) ?_
        first | refine al_opd rfl rfl rfl ((ao_storeL Try.sizeOf27 (by rfl) (by rfl) (by exact HLp) (by exact RFp) (by exact RFp) (by exact RFp)).to (SetR.eq (by exact SRp))) ?_ | refine al_opd rfl rfl rfl ((ao_storeP (ds := [.int _ _, .slice _ _ _]) Try.sizeOf27 (by rfl) (by rfl) (by exact HLp) (by exact RFp) (by exact RFp) (by exact LTp)).to (SetR.eq (by exact SRp))) ?_
        refine al_opd rfl rfl rfl (ao_as (v := .int _ _) rfl) ?_
        refine al_nilT ?_
        refine aw_ret ?_
        refine thenA_r ?_
        refine ends3 rfl (rv_cella Try.isAgg27 Try.sizeOf27 rfl (by exact HLp) (by rfl) (by exact RFp)) (rv_cella Try.isAgg27 Try.sizeOf27 rfl (by exact HLp) (by rfl) (by exact RFp)) (rv_tmp (v := .int _ _) rfl) ?_
        exact ⟨by first | rfl | (simp [*]; (first | done | fail)), by exact SMp⟩
      · try simp only [decide_eq_true_eq, decide_eq_false_iff_not, Bool.not_eq_true', Bool.not_eq_false', Bool.and_eq_true, Bool.or_eq_true, Bool.and_eq_false_iff, Bool.or_eq_false_iff, beq_iff_eq, bne_iff_ne, beq_eq_false_iff_ne, bne_eq_false_iff_eq, ne_eq, Decidable.not_not, Bool.decide_eq_true] at h3_
        refine al_gyes rfl rfl rfl rfl rfl (ao_mv (v := .int _ _) rfl) ?_
        refine al_gyes rfl rfl rfl rfl rfl (ao_mv (v := .int _ _) rfl) ?_
        refine al_gyes rfl rfl rfl rfl rfl (ao_eql rfl rfl) ?_
        refine al_opd rfl rfl rfl (ao_pickF rfl (v := .bool _) rfl) ?_
        refine al_nilT ?_
        refine aw_cond rfl (fun h4_ => ?_) (fun h4_ => ?_)
        · try simp only [decide_eq_true_eq, decide_eq_false_iff_not, Bool.not_eq_true', Bool.not_eq_false', Bool.and_eq_true, Bool.or_eq_true, Bool.and_eq_false_iff, Bool.or_eq_false_iff, beq_iff_eq, bne_iff_ne, beq_eq_false_iff_ne, bne_eq_false_iff_eq, ne_eq, Decidable.not_not, Bool.decide_eq_true] at h4_
          refine aw_seq ?_
          refine aw_region ?_
          refine al_opd rfl rfl rfl (ao_build (A := #[.int _ _, .slice _ _ _]) Try.zeroValue27 (by rfl) (by first | rfl | kernel_rfl) (by rfl) (by first | rfl | kernel_rfl)) ?_
          refine al_opd rfl rfl rfl (ao_build (A := #[.int _ _, .slice _ _ _]) Try.zeroValue27 (by rfl) (by first | rfl | kernel_rfl) (by rfl) (by first | rfl | kernel_rfl)) ?_
          first | refine al_opd rfl rfl rfl ((ao_storeL Try.sizeOf27 (by rfl) (by rfl) (by exact HLp) (by exact RFp) (by exact RFp) (by exact RFp)).to (SetR.eq (by exact SRp))) ?_ | refine al_opd rfl rfl rfl ((ao_storeP (ds := [.int _ _, .slice _ _ _]) Try.sizeOf27 (by rfl) (by rfl) (by exact HLp) (by exact RFp) (by exact RFp) (by exact LTp)).to (SetR.eq (by exact SRp))) ?_
          first | refine al_opd rfl rfl rfl ((ao_storeL Try.sizeOf27 (by rfl) (by rfl) (by exact HLp) (by exact RFp) (by exact RFp) (by exact RFp)).to (SetR.eq (by exact SRp))) ?_ | refine al_opd rfl rfl rfl ((ao_storeP (ds := [.int _ _, .slice _ _ _]) Try.sizeOf27 (by rfl) (by rfl) (by exact HLp) (by exact RFp) (by exact RFp) (by exact LTp)).to (SetR.eq (by exact SRp))) ?_
          refine al_opd rfl rfl rfl (ao_as (v := .int _ _) rfl) ?_
          refine al_nilT ?_
          refine aw_ret ?_
          refine thenA_r ?_
          refine ends3 rfl (rv_cella Try.isAgg27 Try.sizeOf27 rfl (by exact HLp) (by rfl) (by exact RFp)) (rv_cella Try.isAgg27 Try.sizeOf27 rfl (by exact HLp) (by rfl) (by exact RFp)) (rv_tmp (v := .int _ _) rfl) ?_
          exact ⟨by first | rfl | (simp [*]; (first | done | fail)), by exact SMp⟩
        · try simp only [decide_eq_true_eq, decide_eq_false_iff_not, Bool.not_eq_true', Bool.not_eq_false', Bool.and_eq_true, Bool.or_eq_true, Bool.and_eq_false_iff, Bool.or_eq_false_iff, beq_iff_eq, bne_iff_ne, beq_eq_false_iff_ne, bne_eq_false_iff_eq, ne_eq, Decidable.not_not, Bool.decide_eq_true] at h4_
          first | done | omega | (exfalso; revert h4_; simp; (first | done | omega))

-- impl.CutRope
theorem implCut1_c {L m : Int} {ks : List Int} {lb c' : Nat} {H : AHeap} (hk0 : H.blk lb = some (.cells (fl i16 ks) 1)) (hcc : ks.length ≤ c') (hlen : ks.length ≤ 4194304) (hL : -32768 ≤ L ∧ L ≤ 32767) (hv : ¬ okRope L ks) : ACd Try.prog 8 [.agg #[.int .i16 L, .slice (some ⟨lb, 0, none⟩) ks.length c'], .int .i64 m] H (.tuple #[.agg #[.int .i16 0, .slice none 0 0], .agg #[.int .i16 0, .slice none 0 0], .int .i64 1]) (H) := by
  have hlt0 := AHeap.lt hk0
  have ha0 : Sl H i16 1 (.slice (some ⟨lb, 0, none⟩) ks.length c') ks := Sl.full i16_len hk0 rfl rfl rfl
  refine ac_gc0 (fun β => VR.plainT β (by first | rfl | simp [plainT, plainV, plain1])) (ac_body Try.func8 rfl Try.ntmps8 rfl ?_)
  refine aw_seq ?_
  refine aw_region ?_
  refine al_opd rfl rfl rfl (ao_boxa (by rfl)) ?_
  refine al_opd rfl rfl rfl (ao_alloca (zv27) (by rfl)) ?_
  refine al_opd rfl rfl rfl (ao_alloca (zv27) (by rfl)) ?_
  refine al_opd rfl rfl rfl (ao_as (v := .int _ _) rfl) ?_
  refine al_nilT ?_
  refine aw_seq ?_
  refine aw_region ?_
  refine al_opd rfl rfl rfl (ao_fieldAddr fo_27_1 rfl) ?_
  refine al_opd rfl rfl rfl (ao_load (v := .slice _ _ _) Try.isAgg23 (by rfl) (by exact HLp) (by rfl) (by exact RFp)) ?_
  refine al_opd rfl rfl rfl (ao_calld (sizeI16_c (v := .slice (some ⟨lb, 0, none⟩) ks.length c') (l := ks) (ha0.mono (by exact SMp))) Try.call23 rfl rfl) ?_
  first | refine al_opd rfl rfl rfl ((ao_sub rfl rfl).val (nw_i64 BDp BDp)) ?_ | refine al_opd rfl rfl rfl (ao_sub rfl rfl) ?_
  refine al_opd rfl rfl rfl (ao_as (v := .int _ _) rfl) ?_
  refine al_nilT ?_
  refine aw_seq ?_
  refine aw_block ?_
  refine aw_seq ?_
  refine aw_region ?_
  refine al_opd rfl rfl rfl (ao_loada Try.isAgg27 Try.sizeOf27 rfl (by exact HLp) (by rfl) (by exact RFp)) ?_
  refine al_opd rfl rfl rfl (ao_calld (implValidRope_c (L := L) (v := .slice (some ⟨lb, 0, none⟩) ks.length c') (ks := ks) (b := false) (ha0.mono (by exact SMp)) hlen hL (no hv)) Try.call24 rfl rfl) ?_
  refine al_opd rfl rfl rfl (ao_not rfl) ?_
  refine al_opd rfl rfl rfl (ao_as (v := .bool _) rfl) ?_
  refine al_nilT ?_
  refine aw_cond rfl (fun h1_ => ?_) (fun h1_ => ?_)
  · try simp only [decide_eq_true_eq, decide_eq_false_iff_not, Bool.not_eq_true', Bool.not_eq_false', Bool.and_eq_true, Bool.or_eq_true, Bool.and_eq_false_iff, Bool.or_eq_false_iff, beq_iff_eq, bne_iff_ne, beq_eq_false_iff_ne, bne_eq_false_iff_eq, ne_eq, Decidable.not_not, Bool.decide_eq_true] at h1_
    refine aw_seq ?_
    refine aw_region ?_
    refine al_opd rfl rfl rfl (ao_build (A := #[.int _ _, .slice _ _ _]) Try.zeroValue27 (by rfl) (by first | rfl | kernel_rfl) (by rfl) (by first | rfl | kernel_rfl)) ?_
    refine al_opd rfl rfl rfl (ao_build (A := #[.int _ _, .slice _ _ _]) Try.zeroValue27 (by rfl) (by first | rfl | kernel_rfl) (by rfl) (by first | rfl | kernel_rfl)) ?_
    first | refine al_opd rfl rfl rfl ((ao_storeL Try.sizeOf27 (by rfl) (by rfl) (by exact HLp) (by exact RFp) (by exact RFp) (by exact RFp)).to (SetR.eq (by exact SRp))) ?_ | refine al_opd rfl rfl rfl ((ao_storeP (ds := [.int _ _, .slice _ _ _]) Try.sizeOf27 (by rfl) (by rfl) (by exact HLp) (by exact RFp) (by exact RFp) (by exact LTp)).to (SetR.eq (by exact SRp))) ?_
    first | refine al_opd rfl rfl rfl ((ao_storeL Try.sizeOf27 (by rfl) (by rfl) (by exact HLp) (by exact RFp) (by exact RFp) (by exact RFp)).to (SetR.eq (by exact SRp))) ?_ | refine al_opd rfl rfl rfl ((ao_storeP (ds := [.int _ _, .slice _ _ _]) Try.sizeOf27 (by rfl) (by rfl) (by exact HLp) (by exact RFp) (by exact RFp) (by exact LTp)).to (SetR.eq (by exact SRp))) ?_
    refine al_opd rfl rfl rfl (ao_as (v := .int _ _) rfl) ?_
    refine al_nilT ?_
    refine aw_ret ?_
    refine blockA_r ?_
    refine thenA_r ?_
    refine ends3 rfl (rv_cella Try.isAgg27 Try.sizeOf27 rfl (by exact HLp) (by rfl) (by exact RFp)) (rv_cella Try.isAgg27 Try.sizeOf27 rfl (by exact HLp) (by rfl) (by exact RFp)) (rv_tmp (v := .int _ _) rfl) ?_
    exact ⟨by first | rfl | (simp [*]; (first | done | fail)), by exact SMp⟩
  · try simp only [decide_eq_true_eq, decide_eq_false_iff_not, Bool.not_eq_true', Bool.not_eq_false', Bool.and_eq_true, Bool.or_eq_true, Bool.and_eq_false_iff, Bool.or_eq_false_iff, beq_iff_eq, bne_iff_ne, beq_eq_false_iff_ne, bne_eq_false_iff_eq, ne_eq, Decidable.not_not, Bool.decide_eq_true] at h1_
    first | done | omega | (exfalso; revert h1_; simp; (first | done | omega))

-- impl.CutRope
theorem implCut2_c {L m : Int} {ks : List Int} {lb c' : Nat} {H : AHeap} (hk0 : H.blk lb = some (.cells (fl i16 ks) 1)) (hcc : ks.length ≤ c') (hlen : ks.length ≤ 4194304) (hL : -32768 ≤ L ∧ L ≤ 32767) (hv : okRope L ks) (hm : ¬ (0 ≤ m ∧ m ≤ (ks.length : Int) - 1)) : ACd Try.prog 8 [.agg #[.int .i16 L, .slice (some ⟨lb, 0, none⟩) ks.length c'], .int .i64 m] H (.tuple #[.agg #[.int .i16 0, .slice none 0 0], .agg #[.int .i16 0, .slice none 0 0], .int .i64 2]) (H) := by
  have hlt0 := AHeap.lt hk0
  have ha0 : Sl H i16 1 (.slice (some ⟨lb, 0, none⟩) ks.length c') ks := Sl.full i16_len hk0 rfl rfl rfl
  have ⟨v1, v2, v3, v4, v5, v6, v7⟩ := hv
  refine ac_gc0 (fun β => VR.plainT β (by first | rfl | simp [plainT, plainV, plain1])) (ac_body Try.func8 rfl Try.ntmps8 rfl ?_)
  refine aw_seq ?_
  refine aw_region ?_
  refine al_opd rfl rfl rfl (ao_boxa (by rfl)) ?_
  refine al_opd rfl rfl rfl (ao_alloca (zv27) (by rfl)) ?_
  refine al_opd rfl rfl rfl (ao_alloca (zv27) (by rfl)) ?_
  refine al_opd rfl rfl rfl (ao_as (v := .int _ _) rfl) ?_
  refine al_nilT ?_
  refine aw_seq ?_
  refine aw_region ?_
  refine al_opd rfl rfl rfl (ao_fieldAddr fo_27_1 rfl) ?_
  refine al_opd rfl rfl rfl (ao_load (v := .slice _ _ _) Try.isAgg23 (by rfl) (by exact HLp) (by rfl) (by exact RFp)) ?_
  refine al_opd rfl rfl rfl (ao_calld (sizeI16_c (v := .slice (some ⟨lb, 0, none⟩) ks.length c') (l := ks) (ha0.mono (by exact SMp))) Try.call23 rfl rfl) ?_
  first | refine al_opd rfl rfl rfl ((ao_sub rfl rfl).val (nw_i64 BDp BDp)) ?_ | refine al_opd rfl rfl rfl (ao_sub rfl rfl) ?_
  refine al_opd rfl rfl rfl (ao_as (v := .int _ _) rfl) ?_
  refine al_nilT ?_
  refine aw_seq ?_
  refine aw_block ?_
  refine aw_seq ?_
  refine aw_region ?_
  refine al_opd rfl rfl rfl (ao_loada Try.isAgg27 Try.sizeOf27 rfl (by exact HLp) (by rfl) (by exact RFp)) ?_
  refine al_opd rfl rfl rfl (ao_calld (implValidRope_c (L := L) (v := .slice (some ⟨lb, 0, none⟩) ks.length c') (ks := ks) (b := true) (ha0.mono (by exact SMp)) hlen hL (yes hv)) Try.call24 rfl rfl) ?_
  refine al_opd rfl rfl rfl (ao_not rfl) ?_
  refine al_opd rfl rfl rfl (ao_as (v := .bool _) rfl) ?_
  refine al_nilT ?_
  refine aw_cond rfl (fun h1_ => ?_) (fun h1_ => ?_)
  · try simp only [decide_eq_true_eq, decide_eq_false_iff_not, Bool.not_eq_true', Bool.not_eq_false', Bool.and_eq_true, Bool.or_eq_true, Bool.and_eq_false_iff, Bool.or_eq_false_iff, beq_iff_eq, bne_iff_ne, beq_eq_false_iff_ne, bne_eq_false_iff_eq, ne_eq, Decidable.not_not, Bool.decide_eq_true] at h1_
    first | done | omega | (exfalso; revert h1_; simp; (first | done | omega))
  · try simp only [decide_eq_true_eq, decide_eq_false_iff_not, Bool.not_eq_true', Bool.not_eq_false', Bool.and_eq_true, Bool.or_eq_true, Bool.and_eq_false_iff, Bool.or_eq_false_iff, beq_iff_eq, bne_iff_ne, beq_eq_false_iff_ne, bne_eq_false_iff_eq, ne_eq, Decidable.not_not, Bool.decide_eq_true] at h1_
    refine aw_seq ?_
    refine aw_region ?_
    refine al_opd rfl rfl rfl (ao_mv (v := .int _ _) rfl) ?_
    refine al_opd rfl rfl rfl (ao_mv (v := .int _ _) rfl) ?_
    refine al_opd rfl rfl rfl (ao_calld (within_c) Try.call25 rfl rfl) ?_
    refine al_opd rfl rfl rfl (ao_not rfl) ?_
    refine al_opd rfl rfl rfl (ao_as (v := .bool _) rfl) ?_
    refine al_nilT ?_
    refine aw_cond rfl (fun h2_ => ?_) (fun h2_ => ?_)
    · try simp only [decide_eq_true_eq, decide_eq_false_iff_not, Bool.not_eq_true', Bool.not_eq_false', Bool.and_eq_true, Bool.or_eq_true, Bool.and_eq_false_iff, Bool.or_eq_false_iff, beq_iff_eq, bne_iff_ne, beq_eq_false_iff_ne, bne_eq_false_iff_eq, ne_eq, Decidable.not_not, Bool.decide_eq_true] at h2_
      refine aw_seq ?_
      refine aw_region ?_
      refine al_opd rfl rfl rfl (ao_build (A := #[.int _ _, .slice _ _ _]) Try.zeroValue27 (by rfl) (by first | rfl | kernel_rfl) (by rfl) (by first | rfl | kernel_rfl)) ?_
      refine al_opd rfl rfl rfl (ao_build (A := #[.int _ _, .slice _ _ _]) Try.zeroValue27 (by rfl) (by first | rfl | kernel_rfl) (by rfl) (by first | rfl | kernel_rfl)) ?_
      first | refine al_opd rfl rfl rfl ((ao_storeL Try.sizeOf27 (by rfl) (by rfl) (by exact HLp) (by exact RFp) (by exact RFp) (by exact RFp)).to (SetR.eq (by exact SRp))) ?_ | refine al_opd rfl rfl rfl ((ao_storeP (ds := [.int _ _, .slice _ _ _]) Try.sizeOf27 (by rfl) (by rfl) (by exact HLp) (by exact RFp) (by exact RFp) (by exact LTp)).to (SetR.eq (by exact SRp))) ?_
      first | refine al_opd rfl rfl rfl ((ao_storeL Try.sizeOf27 (by rfl) (by rfl) (by exact HLp) (by exact RFp) (by exact RFp) (by exact RFp)).to (SetR.eq (by exact SRp))) ?_ | refine al_opd rfl rfl rfl ((ao_storeP (ds := [.int _ _, .slice _ _ _]) Try.sizeOf27 (by rfl) (by rfl) (by exact HLp) (by exact RFp) (by exact RFp) (by exact LTp)).to (SetR.eq (by exact SRp))) ?_
      refine al_opd rfl rfl rfl (ao_as (v := .int _ _) rfl) ?_
      refine al_nilT ?_
      refine aw_ret ?_
      refine blockA_r ?_
      refine thenA_r ?_
      refine ends3 rfl (rv_cella Try.isAgg27 Try.sizeOf27 rfl (by exact HLp) (by rfl) (by exact RFp)) (rv_cella Try.isAgg27 Try.sizeOf27 rfl (by exact HLp) (by rfl) (by exact RFp)) (rv_tmp (v := .int _ _) rfl) ?_
      exact ⟨by first | rfl | (simp [*]; (first | done | fail)), by exact SMp⟩
    · try simp only [decide_eq_true_eq, decide_eq_false_iff_not, Bool.not_eq_true', Bool.not_eq_false', Bool.and_eq_true, Bool.or_eq_true, Bool.and_eq_false_iff, Bool.or_eq_false_iff, beq_iff_eq, bne_iff_ne, beq_eq_false_iff_ne, bne_eq_false_iff_eq, ne_eq, Decidable.not_not, Bool.decide_eq_true] at h2_
      first | done | omega | (exfalso; revert h2_; simp; (first | done | omega))

-- impl.CutRope
theorem implCut4_c {L m : Int} {ks : List Int} {lb c' : Nat} {H : AHeap} (hk0 : H.blk lb = some (.cells (fl i16 ks) 1)) (hcc : ks.length ≤ c') (hlen : ks.length ≤ 4194304) (hL : -32768 ≤ L ∧ L ≤ 32767) (hv : okRope L ks) (hm : m = 0 ∨ m = (ks.length : Int) - 1) : ACd Try.prog 8 [.agg #[.int .i16 L, .slice (some ⟨lb, 0, none⟩) ks.length c'], .int .i64 m] H (.tuple #[.agg #[.int .i16 0, .slice none 0 0], .agg #[.int .i16 0, .slice none 0 0], .int .i64 4]) (H) := by
  have hlt0 := AHeap.lt hk0
  have ha0 : Sl H i16 1 (.slice (some ⟨lb, 0, none⟩) ks.length c') ks := Sl.full i16_len hk0 rfl rfl rfl
  have ⟨v1, v2, v3, v4, v5, v6, v7⟩ := hv
  refine ac_gc0 (fun β => VR.plainT β (by first | rfl | simp [plainT, plainV, plain1])) (ac_body Try.func8 rfl Try.ntmps8 rfl ?_)
  refine aw_seq ?_
  refine aw_region ?_
  refine al_opd rfl rfl rfl (ao_boxa (by rfl)) ?_
  refine al_opd rfl rfl rfl (ao_alloca (zv27) (by rfl)) ?_
  refine al_opd rfl rfl rfl (ao_alloca (zv27) (by rfl)) ?_
  refine al_opd rfl rfl rfl (ao_as (v := .int _ _) rfl) ?_
  refine al_nilT ?_
  refine aw_seq ?_
  refine aw_region ?_
  refine al_opd rfl rfl rfl (ao_fieldAddr fo_27_1 rfl) ?_
  refine al_opd rfl rfl rfl (ao_load (v := .slice _ _ _) Try.isAgg23 (by rfl) (by exact HLp) (by rfl) (by exact RFp)) ?_
  refine al_opd rfl rfl rfl (ao_calld (sizeI16_c (v := .slice (some ⟨lb, 0, none⟩) ks.length c') (l := ks) (ha0.mono (by exact SMp))) Try.call23 rfl rfl) ?_
  first | refine al_opd rfl rfl rfl ((ao_sub rfl rfl).val (nw_i64 BDp BDp)) ?_ | refine al_opd rfl rfl rfl (ao_sub rfl rfl) ?_
  refine al_opd rfl rfl rfl (ao_as (v := .int _ _) rfl) ?_
  refine al_nilT ?_
  refine aw_seq ?_
  refine aw_block ?_
  refine aw_seq ?_
  refine aw_region ?_
  refine al_opd rfl rfl rfl (ao_loada Try.isAgg27 Try.sizeOf27 rfl (by exact HLp) (by rfl) (by exact RFp)) ?_
  refine al_opd rfl rfl rfl (ao_calld (implValidRope_c (L := L) (v := .slice (some ⟨lb, 0, none⟩) ks.length c') (ks := ks) (b := true) (ha0.mono (by exact SMp)) hlen hL (yes hv)) Try.call24 rfl rfl) ?_
  refine al_opd rfl rfl rfl (ao_not rfl) ?_
  refine al_opd rfl rfl rfl (ao_as (v := .bool _) rfl) ?_
  refine al_nilT ?_
  refine aw_cond rfl (fun h1_ => ?_) (fun h1_ => ?_)
  · try simp only [decide_eq_true_eq, decide_eq_false_iff_not, Bool.not_eq_true', Bool.not_eq_false', Bool.and_eq_true, Bool.or_eq_true, Bool.and_eq_false_iff, Bool.or_eq_false_iff, beq_iff_eq, bne_iff_ne, beq_eq_false_iff_ne, bne_eq_false_iff_eq, ne_eq, Decidable.not_not, Bool.decide_eq_true] at h1_
    first | done | omega | (exfalso; revert h1_; simp; (first | done | omega))
  · try simp only [decide_eq_true_eq, decide_eq_false_iff_not, Bool.not_eq_true', Bool.not_eq_false', Bool.and_eq_true, Bool.or_eq_true, Bool.and_eq_false_iff, Bool.or_eq_false_iff, beq_iff_eq, bne_iff_ne, beq_eq_false_iff_ne, bne_eq_false_iff_eq, ne_eq, Decidable.not_not, Bool.decide_eq_true] at h1_
    refine aw_seq ?_
    refine aw_region ?_
    refine al_opd rfl rfl rfl (ao_mv (v := .int _ _) rfl) ?_
    refine al_opd rfl rfl rfl (ao_mv (v := .int _ _) rfl) ?_
    refine al_opd rfl rfl rfl (ao_calld (within_c) Try.call25 rfl rfl) ?_
    refine al_opd rfl rfl rfl (ao_not rfl) ?_
    refine al_opd rfl rfl rfl (ao_as (v := .bool _) rfl) ?_
    refine al_nilT ?_
    refine aw_cond rfl (fun h2_ => ?_) (fun h2_ => ?_)
    · try simp only [decide_eq_true_eq, decide_eq_false_iff_not, Bool.not_eq_true', Bool.not_eq_false', Bool.and_eq_true, Bool.or_eq_true, Bool.and_eq_false_iff, Bool.or_eq_false_iff, beq_iff_eq, bne_iff_ne, beq_eq_false_iff_ne, bne_eq_false_iff_eq, ne_eq, Decidable.not_not, Bool.decide_eq_true] at h2_
      first | done | omega | (exfalso; revert h2_; simp; (first | done | omega))
    · try simp only [decide_eq_true_eq, decide_eq_false_iff_not, Bool.not_eq_true', Bool.not_eq_false', Bool.and_eq_true, Bool.or_eq_true, Bool.and_eq_false_iff, Bool.or_eq_false_iff, beq_iff_eq, bne_iff_ne, beq_eq_false_iff_ne, bne_eq_false_iff_eq, ne_eq, Decidable.not_not, Bool.decide_eq_true] at h2_
      refine aw_seq ?_
      refine aw_region ?_
      refine al_opd rfl rfl rfl (ao_mv (v := .int _ _) rfl) ?_
      refine al_opd rfl rfl rfl (ao_eql rfl rfl) ?_
      refine al_opd rfl rfl rfl (ao_mv (v := .bool _) rfl) ?_
      refine al_cases (d := 32) rfl (fun h3_ => ?_) (fun h3_ => ?_)
      · try simp only [decide_eq_true_eq, decide_eq_false_iff_not, Bool.not_eq_true', Bool.not_eq_false', Bool.and_eq_true, Bool.or_eq_true, Bool.and_eq_false_iff, Bool.or_eq_false_iff, beq_iff_eq, bne_iff_ne, beq_eq_false_iff_ne, bne_eq_false_iff_eq, ne_eq, Decidable.not_not, Bool.decide_eq_true] at h3_
        refine al_gno rfl rfl rfl rfl rfl ?_
        refine al_gno rfl rfl rfl rfl rfl ?_
        refine al_gno rfl rfl rfl rfl rfl ?_
        refine al_opd rfl rfl rfl (ao_pickT rfl (v := .bool _) rfl) ?_
        refine al_opd rfl rfl rfl (ao_as (v := .bool _) rfl) ?_
        refine al_nilT ?_
        refine aw_condT (by rfl) ⟨_, rfl⟩ ?_
        refine aw_seq ?_
        refine aw_region ?_
        refine al_opd rfl rfl rfl (ao_build (A := #[.int _ _, .slice _ _ _]) Try.zeroValue27 (by rfl) (by first | rfl | kernel_rfl) (by rfl) (by first | rfl | kernel_rfl)) ?_
        refine al_opd rfl rfl rfl (ao_build (A := #[.int _ _, .slice _ _ _]) Try.zeroValue27 (by rfl) (by first | rfl | kernel_rfl) (by rfl) (by first | rfl | kernel_rfl)) ?_
        first | refine al_opd rfl rfl rfl ((ao_storeL Try.sizeOf27 (by rfl) (by rfl) (by exact HLp) (by exact RFp) (by exact RFp) (by exact RFp)).to (SetR.eq (by exact SRp))) ?_ | refine al_opd rfl rfl rfl ((ao_storeP (ds := [.int _ _, .slice _ _ _]) Try.sizeOf27 (by rfl) (by rfl) (by exact HLp) (by exact RFp) (by exact RFp) (by exact LTp)).to (SetR.eq (by exact SRp))) ?_
        first | refine al_opd rfl rfl rfl ((ao_storeL Try.sizeOf27 (by rfl) (by rfl) (by exact HLp) (by exact RFp) (by exact RFp) (by exact RFp)).to (SetR.eq (by exact SRp))) ?_ | refine al_opd rfl rfl rfl ((ao_storeP (ds := [.int _ _, .slice _ _ _]) Try.sizeOf27 (by rfl) (by rfl) (by exact HLp) (by exact RFp) (by exact RFp) (by exact LTp)).to (SetR.eq (by exact SRp))) ?_
        refine al_opd rfl rfl rfl (ao_as (v := .int _ _) rfl) ?_
        refine al_nilT ?_
        refine aw_ret ?_
        refine blockA_r ?_
        refine thenA_r ?_
        refine ends3 rfl (rv_cella Try.isAgg27 Try.sizeOf27 rfl (by exact HLp) (by rfl) (by exact RFp)) (rv_cella Try.isAgg27 Try.sizeOf27 rfl (by exact HLp) (by rfl) (by exact RFp)) (rv_tmp (v := .int _ _) rfl) ?_
        exact ⟨by first | rfl | (simp [*]; (first | done | fail)), by exact SMp⟩
      · try simp only [decide_eq_true_eq, decide_eq_false_iff_not, Bool.not_eq_true', Bool.not_eq_false', Bool.and_eq_true, Bool.or_eq_true, Bool.and_eq_false_iff, Bool.or_eq_false_iff, beq_iff_eq, bne_iff_ne, beq_eq_false_iff_ne, bne_eq_false_iff_eq, ne_eq, Decidable.not_not, Bool.decide_eq_true] at h3_
        refine al_gyes rfl rfl rfl rfl rfl (ao_mv (v := .int _ _) rfl) ?_
        refine al_gyes rfl rfl rfl rfl rfl (ao_mv (v := .int _ _) rfl) ?_
        refine al_gyes rfl rfl rfl rfl rfl (ao_eql rfl rfl) ?_
        refine al_opd rfl rfl rfl (ao_pickF rfl (v := .bool _) rfl) ?_
        refine al_opd rfl rfl rfl (ao_as (v := .bool _) rfl) ?_
        refine al_nilT ?_
        refine aw_cond rfl (fun h4_ => ?_) (fun h4_ => ?_)
        · try simp only [decide_eq_true_eq, decide_eq_false_iff_not, Bool.not_eq_true', Bool.not_eq_false', Bool.and_eq_true, Bool.or_eq_true, Bool.and_eq_false_iff, Bool.or_eq_false_iff, beq_iff_eq, bne_iff_ne, beq_eq_false_iff_ne, bne_eq_false_iff_eq, ne_eq, Decidable.not_not, Bool.decide_eq_true] at h4_
          refine aw_seq ?_
          refine aw_region ?_
          refine al_opd rfl rfl rfl (ao_build (A := #[.int _ _, .slice _ _ _]) Try.zeroValue27 (by rfl) (by first | rfl | kernel_rfl) (by rfl) (by first | rfl | kernel_rfl)) ?_
          refine al_opd rfl rfl rfl (ao_build (A := #[.int _ _, .slice _ _ _]) Try.zeroValue27 (by rfl) (by first | rfl | kernel_rfl) (by rfl) (by first | rfl | kernel_rfl)) ?_
          first | refine al_opd rfl rfl rfl ((ao_storeL Try.sizeOf27 (by rfl) (by rfl) (by exact HLp) (by exact RFp) (by exact RFp) (by exact RFp)).to (SetR.eq (by exact SRp))) ?_ | refine al_opd rfl rfl rfl ((ao_storeP (ds := [.int _ _, .slice _ _ _]) Try.sizeOf27 (by rfl) (by rfl) (by exact HLp) (by exact RFp) (by exact RFp) (by exact LTp)).to (SetR.eq (by exact SRp))) ?_
          first | refine al_opd rfl rfl rfl ((ao_storeL Try.sizeOf27 (by rfl) (by rfl) (by exact HLp) (by exact RFp) (by exact RFp) (by exact RFp)).to (SetR.eq (by exact SRp))) ?_ | refine al_opd rfl rfl rfl ((ao_storeP (ds := [.int _ _, .slice _ _ _]) Try.sizeOf27 (by rfl) (by rfl) (by exact HLp) (by exact RFp) (by exact RFp) (by exact LTp)).to (SetR.eq (by exact SRp))) ?_
          refine al_opd rfl rfl rfl (ao_as (v := .int _ _) rfl) ?_
          refine al_nilT ?_
          refine aw_ret ?_
          refine blockA_r ?_
          refine thenA_r ?_
          refine ends3 rfl (rv_cella Try.isAgg27 Try.sizeOf27 rfl (by exact HLp) (by rfl) (by exact RFp)) (rv_cella Try.isAgg27 Try.sizeOf27 rfl (by exact HLp) (by rfl) (by exact RFp)) (rv_tmp (v := .int _ _) rfl) ?_
          exact ⟨by first | rfl | (simp [*]; (first | done | fail)), by exact SMp⟩
        · try simp only [decide_eq_true_eq, decide_eq_false_iff_not, Bool.not_eq_true', Bool.not_eq_false', Bool.and_eq_true, Bool.or_eq_true, Bool.and_eq_false_iff, Bool.or_eq_false_iff, beq_iff_eq, bne_iff_ne, beq_eq_false_iff_ne, bne_eq_false_iff_eq, ne_eq, Decidable.not_not, Bool.decide_eq_true] at h4_
          first | done | omega | (exfalso; revert h4_; simp; (first | done | omega))

end Go.Proofs.Ytdcmjbaahcipoaa
