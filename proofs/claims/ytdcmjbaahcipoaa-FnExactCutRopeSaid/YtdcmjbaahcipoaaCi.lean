/- Contracts of the program's functions over abstract heaps. -/
import Derived.Test.YtdcmjbaahcipoaaDag2
import Derived.Test.YtdcmjbaahcipoaaBase
import Derived.Test.YtdcmjbaahcipoaaOk
import Derived.Test.YtdcmjbaahcipoaaCq
namespace Go.Proofs.Ytdcmjbaahcipoaa
open Go Go.AW Go.Proofs
set_option linter.unusedVariables false
set_option linter.unusedSimpArgs false
set_option maxRecDepth 100000
set_option maxHeartbeats 2000000

-- impl.CutRope
theorem implCut0_c {L : Int} {ks : List Int} {lb c' k : Nat} {x : Int} {H : AHeap} (hk0 : H.blk lb = some (.cells (fl i16 ks) 1)) (hcc : ks.length ≤ c') (hlen : ks.length ≤ 4194304) (hL : -32768 ≤ L ∧ L ≤ 32767) (hv : okRope L ks) (h1 : 0 < k) (h2 : k + 1 < ks.length) (hx : ks[k]? = some x) : ACd Try.prog 8 [.agg #[.int .i16 L, .slice (some ⟨lb, 0, none⟩) ks.length c'], .int .i64 k] H (.tuple #[.agg #[.int .i16 x, .slice (some ⟨H.next, 0, none⟩) (ks.take (k + 1)).length ((ks.take (k + 1)).length + 1)], .agg #[.int .i16 (L - x), .slice (some ⟨H.next + 1, 0, none⟩) (cutB ks k x).length ((cutB ks k x).length + 1)], .int .i64 0]) ((H.push (.cells (fl i16 (ks.take (k + 1))) 1)).push (.cells (fl i16 (cutB ks k x)) 1)) := by
  have hlt0 := AHeap.lt hk0
  have ha0 : Sl H i16 1 (.slice (some ⟨lb, 0, none⟩) ks.length c') ks := Sl.full i16_len hk0 rfl rfl rfl
  have ⟨v1, v2, v3, v4, v5, v6, v7⟩ := hv
  have bx := hv.bnd hx
  have hcl := cutB_len ks k x
  have htl : (ks.take (k + 1)).length = k + 1 := by simp; omega
  have hdl : (ks.drop k).length = ks.length - k := by simp
  refine ac_gc2 (vrl_fl i16_plain _) (vrl_fl i16_plain _) (ac_body Try.func8 rfl Try.ntmps8 rfl ?_)
  refine aw_seq ?_
  refine aw_region ?_
  refine al_opd rfl rfl rfl (ao_boxa (by rfl)) ?_
  refine al_opd rfl rfl rfl (ao_alloca (zv27) (by rfl)) ?_
  refine al_opd rfl rfl rfl (ao_alloca (zv27) (by rfl)) ?_
  refine al_opd rfl rfl rfl (ao_as (v := .int _ _) rfl) ?_
  refine al_nilT ?_
  refine aw_seq ?_
  refine aw_region ?_
  refine al_opd rfl rfl rfl (ao_fieldAddr fo_27_1 rfl) ?_
  first | refine al_opd rfl rfl rfl (ao_load (v := .slice _ _ _) Try.isAgg23 (by rfl) (by exact HLp) (by rfl) (by exact RFp)) ?_ | refine al_opd rfl rfl rfl (ao_loadV (j := 0) (u := .slice _ _ _) Try.isAgg23 hzs rfl rfl hx rfl) ?_ | refine al_opd rfl rfl rfl (ao_loadV (j := 1) (u := .slice _ _ _) Try.isAgg23 hzs rfl rfl hx rfl) ?_ | refine al_opd rfl rfl rfl (ao_loadV (j := 0) (u := .slice _ _ _) Try.isAgg23 hzs rfl rfl hzx rfl) ?_ | refine al_opd rfl rfl rfl (ao_loadV (j := 1) (u := .slice _ _ _) Try.isAgg23 hzs rfl rfl hzx rfl) ?_ | refine al_opd rfl rfl rfl (ao_loadV (j := 0) (u := .slice _ _ _) Try.isAgg23 ha rfl rfl hx rfl) ?_ | refine al_opd rfl rfl rfl (ao_loadV (j := 1) (u := .slice _ _ _) Try.isAgg23 ha rfl rfl hx rfl) ?_ | refine al_opd rfl rfl rfl (ao_loadV (j := 0) (u := .slice _ _ _) Try.isAgg23 ha rfl rfl hzx rfl) ?_ | refine al_opd rfl rfl rfl (ao_loadV (j := 1) (u := .slice _ _ _) Try.isAgg23 ha rfl rfl hzx rfl) ?_
  refine al_opd rfl rfl rfl (ao_calld (sizeI16_c (v := .slice (some ⟨lb, 0, none⟩) ks.length c') (l := ks) (ha0.mono (by exact SMp))) Try.call23 rfl rfl) ?_
  first | refine al_opd rfl rfl rfl ((ao_sub rfl rfl).val (nw_i64 BDp BDp)) ?_ | refine al_opd rfl rfl rfl (ao_sub rfl rfl) ?_
  refine al_opd rfl rfl rfl (ao_as (v := .int _ _) rfl) ?_
  refine al_nilT ?_
  refine aw_seq ?_
  refine aw_block ?_
  refine aw_seq ?_
  refine aw_region ?_
  first | refine al_opd rfl rfl rfl (ao_loada Try.isAgg27 Try.sizeOf27 rfl (by exact HLp) (by rfl) (by exact RFp)) ?_ | refine al_opd rfl rfl rfl (ao_loadsV (A := #[.int _ _, .slice _ _ _]) Try.isAgg27 Try.sizeOf27 hzs rfl hx rfl (by decide)) ?_ | refine al_opd rfl rfl rfl (ao_loadsV (A := #[.int _ _, .slice _ _ _]) Try.isAgg27 Try.sizeOf27 hzs rfl hzx rfl (by decide)) ?_ | refine al_opd rfl rfl rfl (ao_loadsV (A := #[.int _ _, .slice _ _ _]) Try.isAgg27 Try.sizeOf27 ha rfl hx rfl (by decide)) ?_ | refine al_opd rfl rfl rfl (ao_loadsV (A := #[.int _ _, .slice _ _ _]) Try.isAgg27 Try.sizeOf27 ha rfl hzx rfl (by decide)) ?_
  refine al_opd rfl rfl rfl (ao_calld (implValidRope_c (L := L) (v := .slice (some ⟨lb, 0, none⟩) ks.length c') (ks := ks) (b := true) (ha0.mono (by exact SMp)) hlen hL (yes hv)) Try.call24 rfl rfl) ?_
  refine al_opd rfl rfl rfl (ao_not rfl) ?_
  refine al_opd rfl rfl rfl (ao_as (v := .bool _) rfl) ?_
  refine al_nilT ?_
  refine aw_cond rfl (fun h1_ => ?_) (fun h1_ => ?_)
  · try simp only [decide_eq_true_eq, decide_eq_false_iff_not, Bool.not_eq_true', Bool.not_eq_false', Bool.and_eq_true, Bool.or_eq_true, Bool.and_eq_false_iff, Bool.or_eq_false_iff, beq_iff_eq, bne_iff_ne, beq_eq_false_iff_ne, bne_eq_false_iff_eq, ne_eq, Decidable.not_not, Bool.decide_eq_true] at h1_
    first | done | omega | (exfalso; revert h1_; simp; (first | done | omega))
  · try simp only [decide_eq_true_eq, decide_eq_false_iff_not, Bool.not_eq_true', Bool.not_eq_false', Bool.and_eq_true, Bool.or_eq_true, Bool.and_eq_false_iff, Bool.or_eq_false_iff, beq_iff_eq, bne_iff_ne, beq_eq_false_iff_ne, bne_eq_false_iff_eq, ne_eq, Decidable.not_not, Bool.decide_eq_true] at h1_
    refine aw_seq ?_
    refine aw_region ?_
    refine al_opd rfl rfl rfl (ao_mv (v := .int _ _) rfl) ?_
    refine al_opd rfl rfl rfl (ao_mv (v := .int _ _) rfl) ?_
    refine al_opd rfl rfl rfl (ao_calld (within_c) Try.call25 rfl rfl) ?_
    refine al_opd rfl rfl rfl (ao_not rfl) ?_
    refine al_opd rfl rfl rfl (ao_as (v := .bool _) rfl) ?_
    refine al_nilT ?_
    refine aw_cond rfl (fun h2_ => ?_) (fun h2_ => ?_)
    · try simp only [decide_eq_true_eq, decide_eq_false_iff_not, Bool.not_eq_true', Bool.not_eq_false', Bool.and_eq_true, Bool.or_eq_true, Bool.and_eq_false_iff, Bool.or_eq_false_iff, beq_iff_eq, bne_iff_ne, beq_eq_false_iff_ne, bne_eq_false_iff_eq, ne_eq, Decidable.not_not, Bool.decide_eq_true] at h2_
      first | done | omega | (exfalso; revert h2_; simp; (first | done | omega))
    · try simp only [decide_eq_true_eq, decide_eq_false_iff_not, Bool.not_eq_true', Bool.not_eq_false', Bool.and_eq_true, Bool.or_eq_true, Bool.and_eq_false_iff, Bool.or_eq_false_iff, beq_iff_eq, bne_iff_ne, beq_eq_false_iff_ne, bne_eq_false_iff_eq, ne_eq, Decidable.not_not, Bool.decide_eq_true] at h2_
      refine aw_seq ?_
      refine aw_region ?_
      refine al_opd rfl rfl rfl (ao_mv (v := .int _ _) rfl) ?_
      refine al_opd rfl rfl rfl (ao_eql rfl rfl) ?_
      refine al_opd rfl rfl rfl (ao_mv (v := .bool _) rfl) ?_
      refine al_cases (d := 32) rfl (fun h3_ => ?_) (fun h3_ => ?_)
      · try simp only [decide_eq_true_eq, decide_eq_false_iff_not, Bool.not_eq_true', Bool.not_eq_false', Bool.and_eq_true, Bool.or_eq_true, Bool.and_eq_false_iff, Bool.or_eq_false_iff, beq_iff_eq, bne_iff_ne, beq_eq_false_iff_ne, bne_eq_false_iff_eq, ne_eq, Decidable.not_not, Bool.decide_eq_true] at h3_
        first | done | omega | (exfalso; revert h3_; simp; (first | done | omega))
      · try simp only [decide_eq_true_eq, decide_eq_false_iff_not, Bool.not_eq_true', Bool.not_eq_false', Bool.and_eq_true, Bool.or_eq_true, Bool.and_eq_false_iff, Bool.or_eq_false_iff, beq_iff_eq, bne_iff_ne, beq_eq_false_iff_ne, bne_eq_false_iff_eq, ne_eq, Decidable.not_not, Bool.decide_eq_true] at h3_
        refine al_gyes rfl rfl rfl rfl rfl (ao_mv (v := .int _ _) rfl) ?_
        refine al_gyes rfl rfl rfl rfl rfl (ao_mv (v := .int _ _) rfl) ?_
        refine al_gyes rfl rfl rfl rfl rfl (ao_eql rfl rfl) ?_
        refine al_opd rfl rfl rfl (ao_pickF rfl (v := .bool _) rfl) ?_
        refine al_opd rfl rfl rfl (ao_as (v := .bool _) rfl) ?_
        refine al_nilT ?_
        refine aw_cond rfl (fun h4_ => ?_) (fun h4_ => ?_)
        · try simp only [decide_eq_true_eq, decide_eq_false_iff_not, Bool.not_eq_true', Bool.not_eq_false', Bool.and_eq_true, Bool.or_eq_true, Bool.and_eq_false_iff, Bool.or_eq_false_iff, beq_iff_eq, bne_iff_ne, beq_eq_false_iff_ne, bne_eq_false_iff_eq, ne_eq, Decidable.not_not, Bool.decide_eq_true] at h4_
          first | done | omega | (exfalso; revert h4_; simp; (first | done | omega))
        · try simp only [decide_eq_true_eq, decide_eq_false_iff_not, Bool.not_eq_true', Bool.not_eq_false', Bool.and_eq_true, Bool.or_eq_true, Bool.and_eq_false_iff, Bool.or_eq_false_iff, beq_iff_eq, bne_iff_ne, beq_eq_false_iff_ne, bne_eq_false_iff_eq, ne_eq, Decidable.not_not, Bool.decide_eq_true] at h4_
          refine aw_skipB ?_
          refine thenA_n ?_
          refine aw_seq ?_
          refine aw_region ?_
          refine al_opd rfl rfl rfl (ao_fieldAddr fo_27_1 rfl) ?_
          first | refine al_opd rfl rfl rfl (ao_load (v := .slice _ _ _) Try.isAgg23 (by rfl) (by exact HLp) (by rfl) (by exact RFp)) ?_ | refine al_opd rfl rfl rfl (ao_loadV (j := 0) (u := .slice _ _ _) Try.isAgg23 hzs rfl rfl hx rfl) ?_ | refine al_opd rfl rfl rfl (ao_loadV (j := 1) (u := .slice _ _ _) Try.isAgg23 hzs rfl rfl hx rfl) ?_ | refine al_opd rfl rfl rfl (ao_loadV (j := 0) (u := .slice _ _ _) Try.isAgg23 hzs rfl rfl hzx rfl) ?_ | refine al_opd rfl rfl rfl (ao_loadV (j := 1) (u := .slice _ _ _) Try.isAgg23 hzs rfl rfl hzx rfl) ?_ | refine al_opd rfl rfl rfl (ao_loadV (j := 0) (u := .slice _ _ _) Try.isAgg23 ha rfl rfl hx rfl) ?_ | refine al_opd rfl rfl rfl (ao_loadV (j := 1) (u := .slice _ _ _) Try.isAgg23 ha rfl rfl hx rfl) ?_ | refine al_opd rfl rfl rfl (ao_loadV (j := 0) (u := .slice _ _ _) Try.isAgg23 ha rfl rfl hzx rfl) ?_ | refine al_opd rfl rfl rfl (ao_loadV (j := 1) (u := .slice _ _ _) Try.isAgg23 ha rfl rfl hzx rfl) ?_
          refine al_opd rfl rfl rfl (ao_mv (v := .int _ _) rfl) ?_
          first | refine al_opd rfl rfl rfl (ao_indexAddrS Try.underlying23 Try.sizeOf22 rfl rfl (by exact IXp) (by exact IXp)) ?_ | refine al_opd rfl rfl rfl (ao_indexV Try.underlying23 Try.sizeOf22 rfl rfl hzs (by exact IXp) (by exact IXp)) ?_ | refine al_opd rfl rfl rfl (ao_indexV Try.underlying23 Try.sizeOf22 rfl rfl ha (by exact IXp) (by exact IXp)) ?_
          refine al_opd rfl rfl rfl (ao_loadV (j := 0) (u := .int _ _) Try.isAgg22 (ha0.mono (by exact SMp)) rfl rfl hx rfl) ?_
          refine al_opd rfl rfl rfl (ao_as (v := .int _ _) rfl) ?_
          refine al_nilT ?_
          refine aw_seq ?_
          refine aw_cut (q9_J0 L ks lb c' k x H) ?_ ?_
          · exact aa_region mo (q9_c hk0 hcc hlen hL hv h1 h2 hx (fun _ _ _ h => h) (fun fr G h => thenA_n h) _ _ ⟨_, rfl, by exact SMp, by exact HLp, by exact HLp, by exact HLp, by exact HLp, by exact LEp, rfl, rfl, rfl, rfl, rfl⟩)
          · rintro fr G ⟨get, rfl, b50, b60, b9, b10, hk0, hk1, hk2, hk3, hk4, hn, hl50, hu50, hc50, hl60, hu60, hc60, hl9, hu9, hc9, hl10, hu10, hc10, he50_60, he50_9, he60_9, he50_10, he60_10, he9_10, g4, g5, g8, g9, g10⟩
            refine aw_slot (d := 4) (v := .pointer (some ⟨H.next + 1, 0, none⟩)) g4 ?_
            refine aw_slot (d := 5) (v := .pointer (some ⟨H.next + 2, 0, none⟩)) g5 ?_
            refine aw_slot (d := 8) (v := .int .i16 x) g8 ?_
            refine aw_slot (d := 9) (v := .pointer (some ⟨b9, 0, none⟩)) g9 ?_
            refine aw_slot (d := 10) (v := .pointer (some ⟨b10, 0, none⟩)) g10 ?_
            refine aw_seq ?_
            refine aw_seq ?_
            refine aw_region ?_
            refine al_opd rfl rfl rfl (ao_fieldAddr fo_27_1 rfl) ?_
            first | refine al_opd rfl rfl rfl (ao_load (v := .slice _ _ _) Try.isAgg23 (by rfl) (by exact HLp) (by rfl) (by exact RFp)) ?_ | refine al_opd rfl rfl rfl (ao_loadV (j := 0) (u := .slice _ _ _) Try.isAgg23 hzs rfl rfl hx rfl) ?_ | refine al_opd rfl rfl rfl (ao_loadV (j := 1) (u := .slice _ _ _) Try.isAgg23 hzs rfl rfl hx rfl) ?_ | refine al_opd rfl rfl rfl (ao_loadV (j := 0) (u := .slice _ _ _) Try.isAgg23 hzs rfl rfl hzx rfl) ?_ | refine al_opd rfl rfl rfl (ao_loadV (j := 1) (u := .slice _ _ _) Try.isAgg23 hzs rfl rfl hzx rfl) ?_ | refine al_opd rfl rfl rfl (ao_loadV (j := 0) (u := .slice _ _ _) Try.isAgg23 ha rfl rfl hx rfl) ?_ | refine al_opd rfl rfl rfl (ao_loadV (j := 1) (u := .slice _ _ _) Try.isAgg23 ha rfl rfl hx rfl) ?_ | refine al_opd rfl rfl rfl (ao_loadV (j := 0) (u := .slice _ _ _) Try.isAgg23 ha rfl rfl hzx rfl) ?_ | refine al_opd rfl rfl rfl (ao_loadV (j := 1) (u := .slice _ _ _) Try.isAgg23 ha rfl rfl hzx rfl) ?_
            first | refine al_opd rfl rfl rfl (ao_lenS Try.underlying23 (by rfl)) ?_ | refine al_opd rfl rfl rfl (ao_lenN Try.underlying23 (by rfl)) ?_ | refine al_opd rfl rfl rfl (ao_lenV Try.underlying23 rfl hzs) ?_ | refine al_opd rfl rfl rfl (ao_lenV Try.underlying23 rfl ha) ?_
            refine al_opd rfl rfl rfl (ao_mv (v := .int _ _) rfl) ?_
            refine al_nilT ?_
            refine aw_block ?_
            refine aw_loop (fun (gk : Nat) (fr : AFr) (G : AHeap) => ∃ get : Nat → Value, fr = ⟨79, get⟩ ∧ (∃ (i : Nat) (z : List Int), k + i ≤ ks.length ∧ gk = ks.length - (k + i) ∧ z.length = ks.length - k ∧ z.take i = (cutB ks k x).take i ∧ z.drop i = (ks.drop k).drop i ∧ Same H.next H G ∧ H.next + 3 ≤ G.next ∧ G.blk (H.next + 1) = some (.cells [.int .i16 0, .slice none 0 0] 1) ∧ G.blk (H.next + 2) = some (.cells [.int .i16 0, .slice none 0 0] 1) ∧ G.blk (b50) = some (.cells (fl i16 (ks.take (k + 1))) 1) ∧ G.blk (b60) = some (.cells (fl i16 z) 1) ∧ G.blk b9 = some (.cells [.int .i16 x, .slice (some ⟨b50, 0, none⟩) (ks.take (k + 1)).length ((ks.take (k + 1)).length + 1)] 1) ∧ G.blk b10 = some (.cells [.int .i16 (L - x), .slice (some ⟨b60, 0, none⟩) (ks.drop k).length ((ks.drop k).length + 1)] 1) ∧ get 4 = .pointer (some ⟨H.next + 1, 0, none⟩) ∧ get 5 = .pointer (some ⟨H.next + 2, 0, none⟩) ∧ get 8 = .int .i16 x ∧ get 9 = .pointer (some ⟨b9, 0, none⟩) ∧ get 10 = .pointer (some ⟨b10, 0, none⟩) ∧ get 64 = .int .i64 (ks.drop k).length ∧ get 65 = .int .i64 i)) (ks.length - k) ⟨_, rfl, ?_⟩ ?_
            · exact ⟨0, ks.drop k, by omega, rfl, by simp, by simp, rfl, hk0, hn, hk2, hk3, hc50, hc60, hc9, hc10, rfl, rfl, rfl, rfl, rfl, rfl, rfl⟩
            · rintro gk fr G ⟨get, rfl, i, z, hi, rfl, hz, hq, hd, hG, hnx, hb1, hb2, hb3, hb4, hb5, hb6, g4, g5, g8, g9, g10, g64, g65⟩
              have hzs : Sl G i16 1 (.slice (some ⟨b60, 0, none⟩) (ks.drop k).length ((ks.drop k).length + 1)) z := Sl.full i16_len hb4 rfl rfl (by omega)
              refine aw_slot (d := 4) (v := .pointer (some ⟨H.next + 1, 0, none⟩)) (by first | assumption | rfl) ?_
              refine aw_slot (d := 5) (v := .pointer (some ⟨H.next + 2, 0, none⟩)) (by first | assumption | rfl) ?_
              refine aw_slot (d := 8) (v := .int .i16 x) (by first | assumption | rfl) ?_
              refine aw_slot (d := 9) (v := .pointer (some ⟨b9, 0, none⟩)) (by first | assumption | rfl) ?_
              refine aw_slot (d := 10) (v := .pointer (some ⟨b10, 0, none⟩)) (by first | assumption | rfl) ?_
              refine aw_slot (d := 64) (v := .int .i64 (ks.drop k).length) (by first | assumption | rfl) ?_
              refine aw_slot (d := 65) (v := .int .i64 i) (by first | assumption | rfl) ?_
              refine aw_seq ?_
              refine aw_region ?_
              refine al_opd rfl rfl rfl (ao_lss rfl rfl) ?_
              refine al_nilT ?_
              refine aw_seq ?_
              refine aw_cond rfl (fun h5_ => ?_) (fun h5_ => ?_)
              · try simp only [decide_eq_true_eq, decide_eq_false_iff_not, Bool.not_eq_true', Bool.not_eq_false', Bool.and_eq_true, Bool.or_eq_true, Bool.and_eq_false_iff, Bool.or_eq_false_iff, beq_iff_eq, bne_iff_ne, beq_eq_false_iff_ne, bne_eq_false_iff_eq, ne_eq, Decidable.not_not, Bool.decide_eq_true] at h5_
                obtain ⟨y, hy⟩ := get_lt (show k + i < ks.length by omega)
                have bY := hv.bnd hy
                have hzx := drop_at hd hy
                refine aw_skipT ?_
                refine aw_seq ?_
                refine aw_block ?_
                refine aw_seq ?_
                refine aw_region ?_
                refine al_opd rfl rfl rfl (ao_mv (v := .int _ _) rfl) ?_
                refine al_opd rfl rfl rfl (ao_as (v := .int _ _) rfl) ?_
                refine al_nilT ?_
                refine aw_region ?_
                refine al_opd rfl rfl rfl (ao_fieldAddr fo_27_1 rfl) ?_
                first | refine al_opd rfl rfl rfl (ao_load (v := .slice _ _ _) Try.isAgg23 (by rfl) (by exact HLp) (by rfl) (by exact RFp)) ?_ | refine al_opd rfl rfl rfl (ao_loadV (j := 0) (u := .slice _ _ _) Try.isAgg23 hzs rfl rfl hx rfl) ?_ | refine al_opd rfl rfl rfl (ao_loadV (j := 1) (u := .slice _ _ _) Try.isAgg23 hzs rfl rfl hx rfl) ?_ | refine al_opd rfl rfl rfl (ao_loadV (j := 0) (u := .slice _ _ _) Try.isAgg23 hzs rfl rfl hzx rfl) ?_ | refine al_opd rfl rfl rfl (ao_loadV (j := 1) (u := .slice _ _ _) Try.isAgg23 hzs rfl rfl hzx rfl) ?_ | refine al_opd rfl rfl rfl (ao_loadV (j := 0) (u := .slice _ _ _) Try.isAgg23 ha rfl rfl hx rfl) ?_ | refine al_opd rfl rfl rfl (ao_loadV (j := 1) (u := .slice _ _ _) Try.isAgg23 ha rfl rfl hx rfl) ?_ | refine al_opd rfl rfl rfl (ao_loadV (j := 0) (u := .slice _ _ _) Try.isAgg23 ha rfl rfl hzx rfl) ?_ | refine al_opd rfl rfl rfl (ao_loadV (j := 1) (u := .slice _ _ _) Try.isAgg23 ha rfl rfl hzx rfl) ?_
                refine al_opd rfl rfl rfl (ao_mv (v := .int _ _) rfl) ?_
                first | refine al_opd rfl rfl rfl (ao_indexAddrS Try.underlying23 Try.sizeOf22 rfl rfl (by exact IXp) (by exact IXp)) ?_ | refine al_opd rfl rfl rfl (ao_indexV Try.underlying23 Try.sizeOf22 rfl rfl hzs (by exact IXp) (by exact IXp)) ?_ | refine al_opd rfl rfl rfl (ao_indexV Try.underlying23 Try.sizeOf22 rfl rfl ha (by exact IXp) (by exact IXp)) ?_
                first | refine al_opd rfl rfl rfl (ao_load (v := .int _ _) Try.isAgg22 (by rfl) (by exact HLp) (by rfl) (by exact RFp)) ?_ | refine al_opd rfl rfl rfl (ao_loadV (j := 0) (u := .int _ _) Try.isAgg22 hzs rfl rfl hx rfl) ?_ | refine al_opd rfl rfl rfl (ao_loadV (j := 1) (u := .int _ _) Try.isAgg22 hzs rfl rfl hx rfl) ?_ | refine al_opd rfl rfl rfl (ao_loadV (j := 0) (u := .int _ _) Try.isAgg22 hzs rfl rfl hzx rfl) ?_ | refine al_opd rfl rfl rfl (ao_loadV (j := 1) (u := .int _ _) Try.isAgg22 hzs rfl rfl hzx rfl) ?_ | refine al_opd rfl rfl rfl (ao_loadV (j := 0) (u := .int _ _) Try.isAgg22 ha rfl rfl hx rfl) ?_ | refine al_opd rfl rfl rfl (ao_loadV (j := 1) (u := .int _ _) Try.isAgg22 ha rfl rfl hx rfl) ?_ | refine al_opd rfl rfl rfl (ao_loadV (j := 0) (u := .int _ _) Try.isAgg22 ha rfl rfl hzx rfl) ?_ | refine al_opd rfl rfl rfl (ao_loadV (j := 1) (u := .int _ _) Try.isAgg22 ha rfl rfl hzx rfl) ?_
                refine al_opd rfl rfl rfl (ao_mv (v := .int _ _) rfl) ?_
                first | refine al_opd rfl rfl rfl ((ao_sub rfl rfl).val (nw_i16 BDp BDp)) ?_ | refine al_opd rfl rfl rfl (ao_sub rfl rfl) ?_
                first | refine al_opd rfl rfl rfl (ao_indexAddrS Try.underlying23 Try.sizeOf22 rfl rfl (by exact IXp) (by exact IXp)) ?_ | refine al_opd rfl rfl rfl (ao_indexV Try.underlying23 Try.sizeOf22 rfl rfl hzs (by exact IXp) (by exact IXp)) ?_ | refine al_opd rfl rfl rfl (ao_indexV Try.underlying23 Try.sizeOf22 rfl rfl ha (by exact IXp) (by exact IXp)) ?_
                refine al_opd rfl rfl rfl ((ao_store1 (v := .int _ _) Try.sizeOf22 (by rfl) (by rfl) (by exact HLp) (by rfl) (by (rw [fl_len i16_len, hz]; simp; omega))).to (SetR.eq (by exact SRp))) ?_
                refine al_nilB ?_
                refine thenA_n ?_
                refine aw_region ?_
                first | refine al_opd rfl rfl rfl ((ao_add rfl rfl).val (nw_i64 BDp BDp)) ?_ | refine al_opd rfl rfl rfl (ao_add rfl rfl) ?_
                refine al_opd rfl rfl rfl (ao_mv (v := .int _ _) rfl) ?_
                refine al_nilT ?_
                exact ⟨_, by omega, _, rfl, i + 1, z.set i (y - x), by omega, rfl, by simp [hz], take_setz hq (cutB_at hy) (by omega), (by rw [List.drop_set_of_lt (by omega), ← List.drop_drop, hd, List.drop_drop]), by exact SMp, by exact LEp, by exact HLp, by exact HLp, by exact HLp, (blk_set_same hb4).trans (congrArg (fun c => some (ABlk.cells c 1)) (fl_setz (j := 0) i16_len (y - x) hzx (by decide) (by rfl))), by exact HLp, by exact HLp, rfl, rfl, rfl, rfl, rfl, rfl, by rfl⟩
              · try simp only [decide_eq_true_eq, decide_eq_false_iff_not, Bool.not_eq_true', Bool.not_eq_false', Bool.and_eq_true, Bool.or_eq_true, Bool.and_eq_false_iff, Bool.or_eq_false_iff, beq_iff_eq, bne_iff_ne, beq_eq_false_iff_ne, bne_eq_false_iff_eq, ne_eq, Decidable.not_not, Bool.decide_eq_true] at h5_
                refine aw_exit ?_
                refine thenA_x ?_
                refine thenA_x ?_
                refine blockA_hit ?_
                refine thenA_n ?_
                refine aw_seq ?_
                refine aa_region mo ?_
                refine aa_two (i := 0) (j := 1) (by kernel_rfl) ?_ ?_
                · try skip
                  first | refine aa_o rfl rfl rfl rfl (ao_loada Try.isAgg27 Try.sizeOf27 rfl (by exact HLp) (by rfl) (by exact RFp)) ?_ | refine aa_o rfl rfl rfl rfl (ao_loadsV (A := #[.int _ _, .slice _ _ _]) Try.isAgg27 Try.sizeOf27 hzs rfl hx rfl (by decide)) ?_ | refine aa_o rfl rfl rfl rfl (ao_loadsV (A := #[.int _ _, .slice _ _ _]) Try.isAgg27 Try.sizeOf27 hzs rfl hzx rfl (by decide)) ?_ | refine aa_o rfl rfl rfl rfl (ao_loadsV (A := #[.int _ _, .slice _ _ _]) Try.isAgg27 Try.sizeOf27 ha rfl hx rfl (by decide)) ?_ | refine aa_o rfl rfl rfl rfl (ao_loadsV (A := #[.int _ _, .slice _ _ _]) Try.isAgg27 Try.sizeOf27 ha rfl hzx rfl (by decide)) ?_
                  refine aa_two (i := 1) (j := 2) (by kernel_rfl) ?_ ?_
                  · try skip
                    first | refine aa_o rfl rfl rfl rfl (ao_loada Try.isAgg27 Try.sizeOf27 rfl (by exact HLp) (by rfl) (by exact RFp)) ?_ | refine aa_o rfl rfl rfl rfl (ao_loadsV (A := #[.int _ _, .slice _ _ _]) Try.isAgg27 Try.sizeOf27 hzs rfl hx rfl (by decide)) ?_ | refine aa_o rfl rfl rfl rfl (ao_loadsV (A := #[.int _ _, .slice _ _ _]) Try.isAgg27 Try.sizeOf27 hzs rfl hzx rfl (by decide)) ?_ | refine aa_o rfl rfl rfl rfl (ao_loadsV (A := #[.int _ _, .slice _ _ _]) Try.isAgg27 Try.sizeOf27 ha rfl hx rfl (by decide)) ?_ | refine aa_o rfl rfl rfl rfl (ao_loadsV (A := #[.int _ _, .slice _ _ _]) Try.isAgg27 Try.sizeOf27 ha rfl hzx rfl (by decide)) ?_
                    refine aa_one (i := 2) (by kernel_rfl) ?_
                    first | refine aa_o rfl rfl rfl rfl ((ao_storeL Try.sizeOf27 (by rfl) (by rfl) (by exact HLp) (by exact RFp) (by exact RFp) (by exact RFp)).to (SetR.eq (by exact SRp))) ?_ | refine aa_o rfl rfl rfl rfl ((ao_storeP (ds := [.int _ _, .slice _ _ _]) Try.sizeOf27 (by rfl) (by rfl) (by exact HLp) (by exact RFp) (by exact RFp) (by (rw [fl_len i16_len, hz]; simp; omega))).to (SetR.eq (by exact SRp))) ?_
                    refine aa_one (i := 3) (by kernel_rfl) ?_
                    first | refine aa_o rfl rfl rfl rfl ((ao_storeL Try.sizeOf27 (by rfl) (by rfl) (by exact HLp) (by exact RFp) (by exact RFp) (by exact RFp)).to (SetR.eq (by exact SRp))) ?_ | refine aa_o rfl rfl rfl rfl ((ao_storeP (ds := [.int _ _, .slice _ _ _]) Try.sizeOf27 (by rfl) (by rfl) (by exact HLp) (by exact RFp) (by exact RFp) (by (rw [fl_len i16_len, hz]; simp; omega))).to (SetR.eq (by exact SRp))) ?_
                    refine aa_one (i := 4) (by kernel_rfl) ?_
                    refine aa_o rfl rfl rfl rfl (ao_as (v := .int _ _) rfl) ?_
                    refine aa_done (by kernel_rfl) ?_
                    refine thenA_n ?_
                    refine aw_ret ?_
                    refine ends3 rfl (rv_cella Try.isAgg27 Try.sizeOf27 rfl (by exact HLp) (by rfl) (by exact RFp)) (rv_cella Try.isAgg27 Try.sizeOf27 rfl (by exact HLp) (by rfl) (by exact RFp)) (rv_tmp (v := .int _ _) rfl) ?_
                    obtain rfl : i = (cutB ks k x).length := by omega
                    obtain rfl := take_all hq (by omega) (by omega)
                    exact ⟨by exact SMp, b50, b60, by omega, by omega, by omega, by exact HLp, by exact HLp, fun ρ h1 h2 => vr_tup3 (vr_agg2 (.int _ _) (by exact vr_sl h1 (by omega) (by omega))) (vr_agg2 (.int _ _) (by rw [hcl, hdl]; exact vr_sl h2 (by omega) (by omega))) (.int _ _)⟩
                  · try skip
                    first | refine aa_o rfl rfl rfl rfl ((ao_storeL Try.sizeOf27 (by rfl) (by rfl) (by exact HLp) (by exact RFp) (by exact RFp) (by exact RFp)).to (SetR.eq (by exact SRp))) ?_ | refine aa_o rfl rfl rfl rfl ((ao_storeP (ds := [.int _ _, .slice _ _ _]) Try.sizeOf27 (by rfl) (by rfl) (by exact HLp) (by exact RFp) (by exact RFp) (by (rw [fl_len i16_len, hz]; simp; omega))).to (SetR.eq (by exact SRp))) ?_
                    refine aa_one (i := 1) (by kernel_rfl) ?_
                    first | refine aa_o rfl rfl rfl rfl (ao_loada Try.isAgg27 Try.sizeOf27 rfl (by exact HLp) (by rfl) (by exact RFp)) ?_ | refine aa_o rfl rfl rfl rfl (ao_loadsV (A := #[.int _ _, .slice _ _ _]) Try.isAgg27 Try.sizeOf27 hzs rfl hx rfl (by decide)) ?_ | refine aa_o rfl rfl rfl rfl (ao_loadsV (A := #[.int _ _, .slice _ _ _]) Try.isAgg27 Try.sizeOf27 hzs rfl hzx rfl (by decide)) ?_ | refine aa_o rfl rfl rfl rfl (ao_loadsV (A := #[.int _ _, .slice _ _ _]) Try.isAgg27 Try.sizeOf27 ha rfl hx rfl (by decide)) ?_ | refine aa_o rfl rfl rfl rfl (ao_loadsV (A := #[.int _ _, .slice _ _ _]) Try.isAgg27 Try.sizeOf27 ha rfl hzx rfl (by decide)) ?_
                    refine aa_one (i := 3) (by kernel_rfl) ?_
                    first | refine aa_o rfl rfl rfl rfl ((ao_storeL Try.sizeOf27 (by rfl) (by rfl) (by exact HLp) (by exact RFp) (by exact RFp) (by exact RFp)).to (SetR.eq (by exact SRp))) ?_ | refine aa_o rfl rfl rfl rfl ((ao_storeP (ds := [.int _ _, .slice _ _ _]) Try.sizeOf27 (by rfl) (by rfl) (by exact HLp) (by exact RFp) (by exact RFp) (by (rw [fl_len i16_len, hz]; simp; omega))).to (SetR.eq (by exact SRp))) ?_
                    refine aa_one (i := 4) (by kernel_rfl) ?_
                    refine aa_o rfl rfl rfl rfl (ao_as (v := .int _ _) rfl) ?_
                    refine aa_done (by kernel_rfl) ?_
                    refine thenA_n ?_
                    refine aw_ret ?_
                    refine ends3 rfl (rv_cella Try.isAgg27 Try.sizeOf27 rfl (by exact HLp) (by rfl) (by exact RFp)) (rv_cella Try.isAgg27 Try.sizeOf27 rfl (by exact HLp) (by rfl) (by exact RFp)) (rv_tmp (v := .int _ _) rfl) ?_
                    obtain rfl : i = (cutB ks k x).length := by omega
                    obtain rfl := take_all hq (by omega) (by omega)
                    exact ⟨by exact SMp, b50, b60, by omega, by omega, by omega, by exact HLp, by exact HLp, fun ρ h1 h2 => vr_tup3 (vr_agg2 (.int _ _) (by exact vr_sl h1 (by omega) (by omega))) (vr_agg2 (.int _ _) (by rw [hcl, hdl]; exact vr_sl h2 (by omega) (by omega))) (.int _ _)⟩
                · try skip
                  first | refine aa_o rfl rfl rfl rfl (ao_loada Try.isAgg27 Try.sizeOf27 rfl (by exact HLp) (by rfl) (by exact RFp)) ?_ | refine aa_o rfl rfl rfl rfl (ao_loadsV (A := #[.int _ _, .slice _ _ _]) Try.isAgg27 Try.sizeOf27 hzs rfl hx rfl (by decide)) ?_ | refine aa_o rfl rfl rfl rfl (ao_loadsV (A := #[.int _ _, .slice _ _ _]) Try.isAgg27 Try.sizeOf27 hzs rfl hzx rfl (by decide)) ?_ | refine aa_o rfl rfl rfl rfl (ao_loadsV (A := #[.int _ _, .slice _ _ _]) Try.isAgg27 Try.sizeOf27 ha rfl hx rfl (by decide)) ?_ | refine aa_o rfl rfl rfl rfl (ao_loadsV (A := #[.int _ _, .slice _ _ _]) Try.isAgg27 Try.sizeOf27 ha rfl hzx rfl (by decide)) ?_
                  refine aa_one (i := 0) (by kernel_rfl) ?_
                  first | refine aa_o rfl rfl rfl rfl (ao_loada Try.isAgg27 Try.sizeOf27 rfl (by exact HLp) (by rfl) (by exact RFp)) ?_ | refine aa_o rfl rfl rfl rfl (ao_loadsV (A := #[.int _ _, .slice _ _ _]) Try.isAgg27 Try.sizeOf27 hzs rfl hx rfl (by decide)) ?_ | refine aa_o rfl rfl rfl rfl (ao_loadsV (A := #[.int _ _, .slice _ _ _]) Try.isAgg27 Try.sizeOf27 hzs rfl hzx rfl (by decide)) ?_ | refine aa_o rfl rfl rfl rfl (ao_loadsV (A := #[.int _ _, .slice _ _ _]) Try.isAgg27 Try.sizeOf27 ha rfl hx rfl (by decide)) ?_ | refine aa_o rfl rfl rfl rfl (ao_loadsV (A := #[.int _ _, .slice _ _ _]) Try.isAgg27 Try.sizeOf27 ha rfl hzx rfl (by decide)) ?_
                  refine aa_one (i := 2) (by kernel_rfl) ?_
                  first | refine aa_o rfl rfl rfl rfl ((ao_storeL Try.sizeOf27 (by rfl) (by rfl) (by exact HLp) (by exact RFp) (by exact RFp) (by exact RFp)).to (SetR.eq (by exact SRp))) ?_ | refine aa_o rfl rfl rfl rfl ((ao_storeP (ds := [.int _ _, .slice _ _ _]) Try.sizeOf27 (by rfl) (by rfl) (by exact HLp) (by exact RFp) (by exact RFp) (by (rw [fl_len i16_len, hz]; simp; omega))).to (SetR.eq (by exact SRp))) ?_
                  refine aa_one (i := 3) (by kernel_rfl) ?_
                  first | refine aa_o rfl rfl rfl rfl ((ao_storeL Try.sizeOf27 (by rfl) (by rfl) (by exact HLp) (by exact RFp) (by exact RFp) (by exact RFp)).to (SetR.eq (by exact SRp))) ?_ | refine aa_o rfl rfl rfl rfl ((ao_storeP (ds := [.int _ _, .slice _ _ _]) Try.sizeOf27 (by rfl) (by rfl) (by exact HLp) (by exact RFp) (by exact RFp) (by (rw [fl_len i16_len, hz]; simp; omega))).to (SetR.eq (by exact SRp))) ?_
                  refine aa_one (i := 4) (by kernel_rfl) ?_
                  refine aa_o rfl rfl rfl rfl (ao_as (v := .int _ _) rfl) ?_
                  refine aa_done (by kernel_rfl) ?_
                  refine thenA_n ?_
                  refine aw_ret ?_
                  refine ends3 rfl (rv_cella Try.isAgg27 Try.sizeOf27 rfl (by exact HLp) (by rfl) (by exact RFp)) (rv_cella Try.isAgg27 Try.sizeOf27 rfl (by exact HLp) (by rfl) (by exact RFp)) (rv_tmp (v := .int _ _) rfl) ?_
                  obtain rfl : i = (cutB ks k x).length := by omega
                  obtain rfl := take_all hq (by omega) (by omega)
                  exact ⟨by exact SMp, b50, b60, by omega, by omega, by omega, by exact HLp, by exact HLp, fun ρ h1 h2 => vr_tup3 (vr_agg2 (.int _ _) (by exact vr_sl h1 (by omega) (by omega))) (vr_agg2 (.int _ _) (by rw [hcl, hdl]; exact vr_sl h2 (by omega) (by omega))) (.int _ _)⟩

end Go.Proofs.Ytdcmjbaahcipoaa
