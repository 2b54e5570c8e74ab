/- Contracts of the program's functions over abstract heaps. -/
import Derived.Test.YtmmmjdbknepjgaaDoorSrc
import Derived.Test.YtmmmjdbknepjgaaDoorFr
namespace Go.Proofs.YtmmmjdbknepjgaaDoor
open Go Go.AW Go.Proofs
set_option linter.unusedVariables false
set_option linter.unusedSimpArgs false
set_option maxRecDepth 100000
set_option maxHeartbeats 2000000

-- (*spec.l00Src).next
theorem srcNext_c {cv : Value} {l : List Int} {pb at_ : Nat} {seed : Int} {H : AHeap} (hs : H.blk pb = some (.cells [cv, .int .i64 (at_ : Nat), .int .u64 seed] 1)) (hc : Sl H u8 1 cv l) (hcb : l = [] ∨ vb cv ≠ pb) (hb : ∀ x ∈ l, 0 ≤ x ∧ x ≤ 255) (hl : l.length ≤ 3000) (ha : at_ ≤ 1000000) : AC Tryd.prog 75 [.pointer (some ⟨pb, 0, none⟩)] H (fun v' H' => ∃ (v s' : Int), v' = .int .i64 v ∧ 0 ≤ v ∧ v ≤ 255 ∧ H' = H.set pb (.cells [cv, .int .i64 ((at_ + 1 : Nat) : Int), .int .u64 s'] 1)) := by
  refine ac_body Tryd.func75 rfl Tryd.ntmps75 rfl ?_
  refine aw_seq ?_
  refine aw_region ?_
  refine al_opd rfl rfl rfl (ao_as (v := .int _ _) rfl) ?_
  refine al_nilT ?_
  refine aw_seq ?_
  refine aw_region ?_
  refine al_opd rfl rfl rfl (ao_as (v := .int _ _) rfl) ?_
  refine al_nilT ?_
  refine aw_seq ?_
  refine aw_seq ?_
  refine aw_draw (m := 10) mo (by kernel_rfl) rfl (fun _ _ _ h => h) ?_
  refine dw_opd rfl rfl rfl (ao_mv (v := .pointer _) rfl) ?_
  refine dw_opd rfl rfl rfl (ao_nilCheck rfl) ?_
  refine dw_opd rfl rfl rfl (ao_fieldAddr fo_85_1 rfl) ?_
  first | refine dw_opd rfl rfl rfl (ao_load (v := .int _ _) Tryd.isAgg3 (by rfl) (by exact HLp) (by rfl) (by exact RFp)) ?_ | refine dw_opd rfl rfl rfl (ao_loadV (j := 0) (u := .int _ _) Tryd.isAgg3 hc rfl rfl hx rfl) ?_ | refine dw_opd rfl rfl rfl (ao_loadV (j := 1) (u := .int _ _) Tryd.isAgg3 hc rfl rfl hx rfl) ?_ | refine dw_opd rfl rfl rfl (ao_loadV (j := 0) (u := .int _ _) Tryd.isAgg3 (hc.off ((OffP.refl H pb).setp _) hcb) rfl rfl hx rfl) ?_ | refine dw_opd rfl rfl rfl (ao_loadV (j := 1) (u := .int _ _) Tryd.isAgg3 (hc.off ((OffP.refl H pb).setp _) hcb) rfl rfl hx rfl) ?_
  refine dw_opd rfl rfl rfl (ao_mv (v := .pointer _) rfl) ?_
  refine dw_opd rfl rfl rfl (ao_nilCheck rfl) ?_
  refine dw_opd rfl rfl rfl (ao_fieldAddr fo_85_0 rfl) ?_
  first | refine dw_opd rfl rfl rfl (ao_load (v := .slice _ _ _) Tryd.isAgg22 (by rfl) (by exact HLp) (by rfl) (by exact RFp)) ?_ | refine dw_opd rfl rfl rfl (ao_load (v := cv) Tryd.isAgg22 (by rfl) (by exact HLp) (by rfl) (by exact RFp)) ?_ | refine dw_opd rfl rfl rfl (ao_loadV (j := 0) (u := .slice _ _ _) Tryd.isAgg22 hc rfl rfl hx rfl) ?_ | refine dw_opd rfl rfl rfl (ao_loadV (j := 1) (u := .slice _ _ _) Tryd.isAgg22 hc rfl rfl hx rfl) ?_ | refine dw_opd rfl rfl rfl (ao_loadV (j := 0) (u := .slice _ _ _) Tryd.isAgg22 (hc.off ((OffP.refl H pb).setp _) hcb) rfl rfl hx rfl) ?_ | refine dw_opd rfl rfl rfl (ao_loadV (j := 1) (u := .slice _ _ _) Tryd.isAgg22 (hc.off ((OffP.refl H pb).setp _) hcb) rfl rfl hx rfl) ?_
  first | refine dw_opd rfl rfl rfl (ao_lenS Tryd.underlying22 (by rfl)) ?_ | refine dw_opd rfl rfl rfl (ao_lenN Tryd.underlying22 (by rfl)) ?_ | refine dw_opd rfl rfl rfl (ao_lenV Tryd.underlying22 rfl hc) ?_ | refine dw_opd rfl rfl rfl (ao_lenV Tryd.underlying22 rfl (hc.off ((OffP.refl H pb).setp _) hcb)) ?_
  refine dw_opd rfl rfl rfl (ao_lss rfl rfl) ?_
  refine dw_end ?_
  refine al_nilT ?_
  refine aw_cond rfl (fun h1_ => ?_) (fun h1_ => ?_)
  · try simp only [nrm] at h1_
    obtain ⟨x, hx⟩ := get_lt (show at_ < l.length by omega)
    have hxb := hb x (List.mem_of_getElem? hx)
    refine aw_draw (m := 12) mo (by kernel_rfl) rfl (fun _ _ _ h => h) ?_
    refine dw_opd rfl rfl rfl (ao_mv (v := .pointer _) rfl) ?_
    refine dw_opd rfl rfl rfl (ao_nilCheck rfl) ?_
    refine dw_opd rfl rfl rfl (ao_fieldAddr fo_85_0 rfl) ?_
    first | refine dw_opd rfl rfl rfl (ao_load (v := .slice _ _ _) Tryd.isAgg22 (by rfl) (by exact HLp) (by rfl) (by exact RFp)) ?_ | refine dw_opd rfl rfl rfl (ao_load (v := cv) Tryd.isAgg22 (by rfl) (by exact HLp) (by rfl) (by exact RFp)) ?_ | refine dw_opd rfl rfl rfl (ao_loadV (j := 0) (u := .slice _ _ _) Tryd.isAgg22 hc rfl rfl hx rfl) ?_ | refine dw_opd rfl rfl rfl (ao_loadV (j := 1) (u := .slice _ _ _) Tryd.isAgg22 hc rfl rfl hx rfl) ?_ | refine dw_opd rfl rfl rfl (ao_loadV (j := 0) (u := .slice _ _ _) Tryd.isAgg22 (hc.off ((OffP.refl H pb).setp _) hcb) rfl rfl hx rfl) ?_ | refine dw_opd rfl rfl rfl (ao_loadV (j := 1) (u := .slice _ _ _) Tryd.isAgg22 (hc.off ((OffP.refl H pb).setp _) hcb) rfl rfl hx rfl) ?_
    refine dw_opd rfl rfl rfl (ao_mv (v := .pointer _) rfl) ?_
    refine dw_opd rfl rfl rfl (ao_nilCheck rfl) ?_
    refine dw_opd rfl rfl rfl (ao_fieldAddr fo_85_1 rfl) ?_
    first | refine dw_opd rfl rfl rfl (ao_load (v := .int _ _) Tryd.isAgg3 (by rfl) (by exact HLp) (by rfl) (by exact RFp)) ?_ | refine dw_opd rfl rfl rfl (ao_loadV (j := 0) (u := .int _ _) Tryd.isAgg3 hc rfl rfl hx rfl) ?_ | refine dw_opd rfl rfl rfl (ao_loadV (j := 1) (u := .int _ _) Tryd.isAgg3 hc rfl rfl hx rfl) ?_ | refine dw_opd rfl rfl rfl (ao_loadV (j := 0) (u := .int _ _) Tryd.isAgg3 (hc.off ((OffP.refl H pb).setp _) hcb) rfl rfl hx rfl) ?_ | refine dw_opd rfl rfl rfl (ao_loadV (j := 1) (u := .int _ _) Tryd.isAgg3 (hc.off ((OffP.refl H pb).setp _) hcb) rfl rfl hx rfl) ?_
    first | refine dw_opd rfl rfl rfl (ao_indexAddrS Tryd.underlying22 Tryd.sizeOf5 rfl rfl (by exact IXp) (by exact IXp)) ?_ | refine dw_opd rfl rfl rfl (ao_indexV Tryd.underlying22 Tryd.sizeOf5 rfl rfl hc (by exact IXp) (by exact IXp)) ?_ | refine dw_opd rfl rfl rfl (ao_indexV Tryd.underlying22 Tryd.sizeOf5 rfl rfl (hc.off ((OffP.refl H pb).setp _) hcb) (by exact IXp) (by exact IXp)) ?_
    first | refine dw_opd rfl rfl rfl (ao_load (v := .int _ _) Tryd.isAgg5 (by rfl) (by exact HLp) (by rfl) (by exact RFp)) ?_ | refine dw_opd rfl rfl rfl (ao_loadV (j := 0) (u := .int _ _) Tryd.isAgg5 hc rfl rfl hx rfl) ?_ | refine dw_opd rfl rfl rfl (ao_loadV (j := 1) (u := .int _ _) Tryd.isAgg5 hc rfl rfl hx rfl) ?_ | refine dw_opd rfl rfl rfl (ao_loadV (j := 0) (u := .int _ _) Tryd.isAgg5 (hc.off ((OffP.refl H pb).setp _) hcb) rfl rfl hx rfl) ?_ | refine dw_opd rfl rfl rfl (ao_loadV (j := 1) (u := .int _ _) Tryd.isAgg5 (hc.off ((OffP.refl H pb).setp _) hcb) rfl rfl hx rfl) ?_
    first | refine dw_opd rfl rfl rfl ((ao_conv ⟨_, Tryd.underlying5⟩ Tryd.underlying3 rfl).val (nw_i64 BDp BDp)) ?_ | refine dw_opd rfl rfl rfl (ao_conv ⟨_, Tryd.underlying5⟩ Tryd.underlying3 rfl) ?_
    refine dw_opd rfl rfl rfl (ao_as (v := .int _ _) rfl) ?_
    refine dw_end ?_
    refine al_nilT ?_
    refine aw_seq ?_
    refine aw_region ?_
    refine al_opd rfl rfl rfl (ao_mv (v := .pointer _) rfl) ?_
    refine al_opd rfl rfl rfl (ao_nilCheck rfl) ?_
    refine al_opd rfl rfl rfl (ao_fieldAddr fo_85_1 rfl) ?_
    first | refine al_opd rfl rfl rfl (ao_load (v := .int _ _) Tryd.isAgg3 (by rfl) (by exact HLp) (by rfl) (by exact RFp)) ?_ | refine al_opd rfl rfl rfl (ao_loadV (j := 0) (u := .int _ _) Tryd.isAgg3 hc rfl rfl hx rfl) ?_ | refine al_opd rfl rfl rfl (ao_loadV (j := 1) (u := .int _ _) Tryd.isAgg3 hc rfl rfl hx rfl) ?_ | refine al_opd rfl rfl rfl (ao_loadV (j := 0) (u := .int _ _) Tryd.isAgg3 (hc.off ((OffP.refl H pb).setp _) hcb) rfl rfl hx rfl) ?_ | refine al_opd rfl rfl rfl (ao_loadV (j := 1) (u := .int _ _) Tryd.isAgg3 (hc.off ((OffP.refl H pb).setp _) hcb) rfl rfl hx rfl) ?_
    first | refine al_opd rfl rfl rfl ((ao_add rfl rfl).val (nw_i64 BDp BDp)) ?_ | refine al_opd rfl rfl rfl (ao_add rfl rfl) ?_
    refine al_opd rfl rfl rfl (ao_nilCheck rfl) ?_
    refine al_opd rfl rfl rfl (ao_fieldAddr fo_85_1 rfl) ?_
    refine al_opd rfl rfl rfl ((ao_store1 (v := .int _ _) Tryd.sizeOf3 (by rfl) (by rfl) (by exact HLp) (by rfl) (by exact LTp)).to (SetR.eq (by exact SRp))) ?_
    refine al_nilT ?_
    refine aw_seq ?_
    refine aw_region ?_
    refine al_opd rfl rfl rfl (ao_mv (v := .pointer _) rfl) ?_
    refine al_opd rfl rfl rfl (ao_mv (v := .pointer _) rfl) ?_
    refine al_opd rfl rfl rfl (ao_nilCheck rfl) ?_
    refine al_opd rfl rfl rfl (ao_fieldAddr fo_85_2 rfl) ?_
    first | refine al_opd rfl rfl rfl (ao_load (v := .int _ _) Tryd.isAgg83 (by rfl) (by exact HLp) (by rfl) (by exact RFp)) ?_ | refine al_opd rfl rfl rfl (ao_loadV (j := 0) (u := .int _ _) Tryd.isAgg83 hc rfl rfl hx rfl) ?_ | refine al_opd rfl rfl rfl (ao_loadV (j := 1) (u := .int _ _) Tryd.isAgg83 hc rfl rfl hx rfl) ?_ | refine al_opd rfl rfl rfl (ao_loadV (j := 0) (u := .int _ _) Tryd.isAgg83 (hc.off ((OffP.refl H pb).setp _) hcb) rfl rfl hx rfl) ?_ | refine al_opd rfl rfl rfl (ao_loadV (j := 1) (u := .int _ _) Tryd.isAgg83 (hc.off ((OffP.refl H pb).setp _) hcb) rfl rfl hx rfl) ?_
    first | refine al_opd rfl rfl rfl ((ao_mul rfl rfl).val (nw_u64 BDp BDp)) ?_ | refine al_opd rfl rfl rfl (ao_mul rfl rfl) ?_
    refine al_opd rfl rfl rfl (ao_mv (v := .int _ _) rfl) ?_
    first | refine al_opd rfl rfl rfl ((ao_conv ⟨_, Tryd.underlying3⟩ Tryd.underlying83 rfl).val (nw_u64 BDp BDp)) ?_ | refine al_opd rfl rfl rfl (ao_conv ⟨_, Tryd.underlying3⟩ Tryd.underlying83 rfl) ?_
    first | refine al_opd rfl rfl rfl ((ao_add rfl rfl).val (nw_u64 BDp BDp)) ?_ | refine al_opd rfl rfl rfl (ao_add rfl rfl) ?_
    first | refine al_opd rfl rfl rfl ((ao_add rfl rfl).val (nw_u64 BDp BDp)) ?_ | refine al_opd rfl rfl rfl (ao_add rfl rfl) ?_
    refine al_opd rfl rfl rfl (ao_nilCheck rfl) ?_
    refine al_opd rfl rfl rfl (ao_fieldAddr fo_85_2 rfl) ?_
    refine al_opd rfl rfl rfl ((ao_store1 (v := .int _ _) Tryd.sizeOf83 (by rfl) (by rfl) (by exact HLp) (by rfl) (by exact LTp)).to (SetR.eq (by exact SRp))) ?_
    refine al_nilT ?_
    refine aw_seq ?_
    refine aw_seq ?_
    refine aw_draw (m := 10) mo (by kernel_rfl) rfl (fun _ _ _ h => h) ?_
    refine dw_opd rfl rfl rfl (ao_mv (v := .pointer _) rfl) ?_
    refine dw_opd rfl rfl rfl (ao_nilCheck rfl) ?_
    refine dw_opd rfl rfl rfl (ao_fieldAddr fo_85_1 rfl) ?_
    first | refine dw_opd rfl rfl rfl (ao_load (v := .int _ _) Tryd.isAgg3 (by rfl) (by exact HLp) (by rfl) (by exact RFp)) ?_ | refine dw_opd rfl rfl rfl (ao_loadV (j := 0) (u := .int _ _) Tryd.isAgg3 hc rfl rfl hx rfl) ?_ | refine dw_opd rfl rfl rfl (ao_loadV (j := 1) (u := .int _ _) Tryd.isAgg3 hc rfl rfl hx rfl) ?_ | refine dw_opd rfl rfl rfl (ao_loadV (j := 0) (u := .int _ _) Tryd.isAgg3 (hc.off ((OffP.refl H pb).setp _) hcb) rfl rfl hx rfl) ?_ | refine dw_opd rfl rfl rfl (ao_loadV (j := 1) (u := .int _ _) Tryd.isAgg3 (hc.off ((OffP.refl H pb).setp _) hcb) rfl rfl hx rfl) ?_
    refine dw_opd rfl rfl rfl (ao_mv (v := .pointer _) rfl) ?_
    refine dw_opd rfl rfl rfl (ao_nilCheck rfl) ?_
    refine dw_opd rfl rfl rfl (ao_fieldAddr fo_85_0 rfl) ?_
    first | refine dw_opd rfl rfl rfl (ao_load (v := .slice _ _ _) Tryd.isAgg22 (by rfl) (by exact HLp) (by rfl) (by exact RFp)) ?_ | refine dw_opd rfl rfl rfl (ao_load (v := cv) Tryd.isAgg22 (by rfl) (by exact HLp) (by rfl) (by exact RFp)) ?_ | refine dw_opd rfl rfl rfl (ao_loadV (j := 0) (u := .slice _ _ _) Tryd.isAgg22 hc rfl rfl hx rfl) ?_ | refine dw_opd rfl rfl rfl (ao_loadV (j := 1) (u := .slice _ _ _) Tryd.isAgg22 hc rfl rfl hx rfl) ?_ | refine dw_opd rfl rfl rfl (ao_loadV (j := 0) (u := .slice _ _ _) Tryd.isAgg22 (hc.off ((OffP.refl H pb).setp _) hcb) rfl rfl hx rfl) ?_ | refine dw_opd rfl rfl rfl (ao_loadV (j := 1) (u := .slice _ _ _) Tryd.isAgg22 (hc.off ((OffP.refl H pb).setp _) hcb) rfl rfl hx rfl) ?_
    first | refine dw_opd rfl rfl rfl (ao_lenS Tryd.underlying22 (by rfl)) ?_ | refine dw_opd rfl rfl rfl (ao_lenN Tryd.underlying22 (by rfl)) ?_ | refine dw_opd rfl rfl rfl (ao_lenV Tryd.underlying22 rfl hc) ?_ | refine dw_opd rfl rfl rfl (ao_lenV Tryd.underlying22 rfl (hc.off ((OffP.refl H pb).setp _) hcb)) ?_
    refine dw_opd rfl rfl rfl (ao_leq rfl rfl) ?_
    refine dw_end ?_
    refine al_nilT ?_
    refine aw_cond rfl (fun h2_ => ?_) (fun h2_ => ?_)
    · try simp only [nrm] at h2_
      refine aw_seq ?_
      refine aw_region ?_
      refine al_opd rfl rfl rfl (ao_mv (v := .int _ _) rfl) ?_
      refine al_opd rfl rfl rfl (ao_as (v := .int _ _) rfl) ?_
      refine al_nilT ?_
      refine aw_ret ?_
      refine thenA_r ?_
      refine ends1 rfl (rv_tmp (v := .int _ _) rfl) ?_
      exact ⟨_, _, rfl, by first | omega | exact (and255w _).1, by first | omega | exact (and255w _).2, rfl⟩
    · try simp only [nrm] at h2_
      refine aw_skipT ?_
      refine aw_seq ?_
      refine aw_region ?_
      refine al_opd rfl rfl rfl (ao_mv (v := .pointer _) rfl) ?_
      refine al_opd rfl rfl rfl (ao_nilCheck rfl) ?_
      refine al_opd rfl rfl rfl (ao_fieldAddr fo_85_2 rfl) ?_
      first | refine al_opd rfl rfl rfl (ao_load (v := .int _ _) Tryd.isAgg83 (by rfl) (by exact HLp) (by rfl) (by exact RFp)) ?_ | refine al_opd rfl rfl rfl (ao_loadV (j := 0) (u := .int _ _) Tryd.isAgg83 hc rfl rfl hx rfl) ?_ | refine al_opd rfl rfl rfl (ao_loadV (j := 1) (u := .int _ _) Tryd.isAgg83 hc rfl rfl hx rfl) ?_ | refine al_opd rfl rfl rfl (ao_loadV (j := 0) (u := .int _ _) Tryd.isAgg83 (hc.off ((OffP.refl H pb).setp _) hcb) rfl rfl hx rfl) ?_ | refine al_opd rfl rfl rfl (ao_loadV (j := 1) (u := .int _ _) Tryd.isAgg83 (hc.off ((OffP.refl H pb).setp _) hcb) rfl rfl hx rfl) ?_
      refine al_opd rfl rfl rfl (ao_shr rfl rfl (by first | decide | omega)) ?_
      refine al_opd rfl rfl rfl (ao_and rfl rfl) ?_
      first | refine al_opd rfl rfl rfl ((ao_conv ⟨_, Tryd.underlying83⟩ Tryd.underlying2 rfl).val (nw_i64 BDp BDp)) ?_ | refine al_opd rfl rfl rfl (ao_conv ⟨_, Tryd.underlying83⟩ Tryd.underlying2 rfl) ?_
      refine al_opd rfl rfl rfl (ao_as (v := .int _ _) rfl) ?_
      refine al_nilT ?_
      refine aw_ret ?_
      refine ends1 rfl (rv_tmp (v := .int _ _) rfl) ?_
      exact ⟨_, _, rfl, by first | omega | exact (and255w _).1, by first | omega | exact (and255w _).2, rfl⟩
  · try simp only [nrm] at h1_
    refine aw_skipT ?_
    refine aw_seq ?_
    refine aw_region ?_
    refine al_opd rfl rfl rfl (ao_mv (v := .pointer _) rfl) ?_
    refine al_opd rfl rfl rfl (ao_nilCheck rfl) ?_
    refine al_opd rfl rfl rfl (ao_fieldAddr fo_85_1 rfl) ?_
    first | refine al_opd rfl rfl rfl (ao_load (v := .int _ _) Tryd.isAgg3 (by rfl) (by exact HLp) (by rfl) (by exact RFp)) ?_ | refine al_opd rfl rfl rfl (ao_loadV (j := 0) (u := .int _ _) Tryd.isAgg3 hc rfl rfl hx rfl) ?_ | refine al_opd rfl rfl rfl (ao_loadV (j := 1) (u := .int _ _) Tryd.isAgg3 hc rfl rfl hx rfl) ?_ | refine al_opd rfl rfl rfl (ao_loadV (j := 0) (u := .int _ _) Tryd.isAgg3 (hc.off ((OffP.refl H pb).setp _) hcb) rfl rfl hx rfl) ?_ | refine al_opd rfl rfl rfl (ao_loadV (j := 1) (u := .int _ _) Tryd.isAgg3 (hc.off ((OffP.refl H pb).setp _) hcb) rfl rfl hx rfl) ?_
    first | refine al_opd rfl rfl rfl ((ao_add rfl rfl).val (nw_i64 BDp BDp)) ?_ | refine al_opd rfl rfl rfl (ao_add rfl rfl) ?_
    refine al_opd rfl rfl rfl (ao_nilCheck rfl) ?_
    refine al_opd rfl rfl rfl (ao_fieldAddr fo_85_1 rfl) ?_
    refine al_opd rfl rfl rfl ((ao_store1 (v := .int _ _) Tryd.sizeOf3 (by rfl) (by rfl) (by exact HLp) (by rfl) (by exact LTp)).to (SetR.eq (by exact SRp))) ?_
    refine al_nilT ?_
    refine aw_seq ?_
    refine aw_region ?_
    refine al_opd rfl rfl rfl (ao_mv (v := .pointer _) rfl) ?_
    refine al_opd rfl rfl rfl (ao_mv (v := .pointer _) rfl) ?_
    refine al_opd rfl rfl rfl (ao_nilCheck rfl) ?_
    refine al_opd rfl rfl rfl (ao_fieldAddr fo_85_2 rfl) ?_
    first | refine al_opd rfl rfl rfl (ao_load (v := .int _ _) Tryd.isAgg83 (by rfl) (by exact HLp) (by rfl) (by exact RFp)) ?_ | refine al_opd rfl rfl rfl (ao_loadV (j := 0) (u := .int _ _) Tryd.isAgg83 hc rfl rfl hx rfl) ?_ | refine al_opd rfl rfl rfl (ao_loadV (j := 1) (u := .int _ _) Tryd.isAgg83 hc rfl rfl hx rfl) ?_ | refine al_opd rfl rfl rfl (ao_loadV (j := 0) (u := .int _ _) Tryd.isAgg83 (hc.off ((OffP.refl H pb).setp _) hcb) rfl rfl hx rfl) ?_ | refine al_opd rfl rfl rfl (ao_loadV (j := 1) (u := .int _ _) Tryd.isAgg83 (hc.off ((OffP.refl H pb).setp _) hcb) rfl rfl hx rfl) ?_
    first | refine al_opd rfl rfl rfl ((ao_mul rfl rfl).val (nw_u64 BDp BDp)) ?_ | refine al_opd rfl rfl rfl (ao_mul rfl rfl) ?_
    refine al_opd rfl rfl rfl (ao_mv (v := .int _ _) rfl) ?_
    first | refine al_opd rfl rfl rfl ((ao_conv ⟨_, Tryd.underlying3⟩ Tryd.underlying83 rfl).val (nw_u64 BDp BDp)) ?_ | refine al_opd rfl rfl rfl (ao_conv ⟨_, Tryd.underlying3⟩ Tryd.underlying83 rfl) ?_
    first | refine al_opd rfl rfl rfl ((ao_add rfl rfl).val (nw_u64 BDp BDp)) ?_ | refine al_opd rfl rfl rfl (ao_add rfl rfl) ?_
    first | refine al_opd rfl rfl rfl ((ao_add rfl rfl).val (nw_u64 BDp BDp)) ?_ | refine al_opd rfl rfl rfl (ao_add rfl rfl) ?_
    refine al_opd rfl rfl rfl (ao_nilCheck rfl) ?_
    refine al_opd rfl rfl rfl (ao_fieldAddr fo_85_2 rfl) ?_
    refine al_opd rfl rfl rfl ((ao_store1 (v := .int _ _) Tryd.sizeOf83 (by rfl) (by rfl) (by exact HLp) (by rfl) (by exact LTp)).to (SetR.eq (by exact SRp))) ?_
    refine al_nilT ?_
    refine aw_seq ?_
    refine aw_seq ?_
    refine aw_draw (m := 10) mo (by kernel_rfl) rfl (fun _ _ _ h => h) ?_
    refine dw_opd rfl rfl rfl (ao_mv (v := .pointer _) rfl) ?_
    refine dw_opd rfl rfl rfl (ao_nilCheck rfl) ?_
    refine dw_opd rfl rfl rfl (ao_fieldAddr fo_85_1 rfl) ?_
    first | refine dw_opd rfl rfl rfl (ao_load (v := .int _ _) Tryd.isAgg3 (by rfl) (by exact HLp) (by rfl) (by exact RFp)) ?_ | refine dw_opd rfl rfl rfl (ao_loadV (j := 0) (u := .int _ _) Tryd.isAgg3 hc rfl rfl hx rfl) ?_ | refine dw_opd rfl rfl rfl (ao_loadV (j := 1) (u := .int _ _) Tryd.isAgg3 hc rfl rfl hx rfl) ?_ | refine dw_opd rfl rfl rfl (ao_loadV (j := 0) (u := .int _ _) Tryd.isAgg3 (hc.off ((OffP.refl H pb).setp _) hcb) rfl rfl hx rfl) ?_ | refine dw_opd rfl rfl rfl (ao_loadV (j := 1) (u := .int _ _) Tryd.isAgg3 (hc.off ((OffP.refl H pb).setp _) hcb) rfl rfl hx rfl) ?_
    refine dw_opd rfl rfl rfl (ao_mv (v := .pointer _) rfl) ?_
    refine dw_opd rfl rfl rfl (ao_nilCheck rfl) ?_
    refine dw_opd rfl rfl rfl (ao_fieldAddr fo_85_0 rfl) ?_
    first | refine dw_opd rfl rfl rfl (ao_load (v := .slice _ _ _) Tryd.isAgg22 (by rfl) (by exact HLp) (by rfl) (by exact RFp)) ?_ | refine dw_opd rfl rfl rfl (ao_load (v := cv) Tryd.isAgg22 (by rfl) (by exact HLp) (by rfl) (by exact RFp)) ?_ | refine dw_opd rfl rfl rfl (ao_loadV (j := 0) (u := .slice _ _ _) Tryd.isAgg22 hc rfl rfl hx rfl) ?_ | refine dw_opd rfl rfl rfl (ao_loadV (j := 1) (u := .slice _ _ _) Tryd.isAgg22 hc rfl rfl hx rfl) ?_ | refine dw_opd rfl rfl rfl (ao_loadV (j := 0) (u := .slice _ _ _) Tryd.isAgg22 (hc.off ((OffP.refl H pb).setp _) hcb) rfl rfl hx rfl) ?_ | refine dw_opd rfl rfl rfl (ao_loadV (j := 1) (u := .slice _ _ _) Tryd.isAgg22 (hc.off ((OffP.refl H pb).setp _) hcb) rfl rfl hx rfl) ?_
    first | refine dw_opd rfl rfl rfl (ao_lenS Tryd.underlying22 (by rfl)) ?_ | refine dw_opd rfl rfl rfl (ao_lenN Tryd.underlying22 (by rfl)) ?_ | refine dw_opd rfl rfl rfl (ao_lenV Tryd.underlying22 rfl hc) ?_ | refine dw_opd rfl rfl rfl (ao_lenV Tryd.underlying22 rfl (hc.off ((OffP.refl H pb).setp _) hcb)) ?_
    refine dw_opd rfl rfl rfl (ao_leq rfl rfl) ?_
    refine dw_end ?_
    refine al_nilT ?_
    refine aw_cond rfl (fun h3_ => ?_) (fun h3_ => ?_)
    · try simp only [nrm] at h3_
      refine aw_seq ?_
      refine aw_region ?_
      refine al_opd rfl rfl rfl (ao_mv (v := .int _ _) rfl) ?_
      refine al_opd rfl rfl rfl (ao_as (v := .int _ _) rfl) ?_
      refine al_nilT ?_
      refine aw_ret ?_
      refine thenA_r ?_
      refine ends1 rfl (rv_tmp (v := .int _ _) rfl) ?_
      exact ⟨_, _, rfl, by first | omega | exact (and255w _).1, by first | omega | exact (and255w _).2, rfl⟩
    · try simp only [nrm] at h3_
      refine aw_skipT ?_
      refine aw_seq ?_
      refine aw_region ?_
      refine al_opd rfl rfl rfl (ao_mv (v := .pointer _) rfl) ?_
      refine al_opd rfl rfl rfl (ao_nilCheck rfl) ?_
      refine al_opd rfl rfl rfl (ao_fieldAddr fo_85_2 rfl) ?_
      first | refine al_opd rfl rfl rfl (ao_load (v := .int _ _) Tryd.isAgg83 (by rfl) (by exact HLp) (by rfl) (by exact RFp)) ?_ | refine al_opd rfl rfl rfl (ao_loadV (j := 0) (u := .int _ _) Tryd.isAgg83 hc rfl rfl hx rfl) ?_ | refine al_opd rfl rfl rfl (ao_loadV (j := 1) (u := .int _ _) Tryd.isAgg83 hc rfl rfl hx rfl) ?_ | refine al_opd rfl rfl rfl (ao_loadV (j := 0) (u := .int _ _) Tryd.isAgg83 (hc.off ((OffP.refl H pb).setp _) hcb) rfl rfl hx rfl) ?_ | refine al_opd rfl rfl rfl (ao_loadV (j := 1) (u := .int _ _) Tryd.isAgg83 (hc.off ((OffP.refl H pb).setp _) hcb) rfl rfl hx rfl) ?_
      refine al_opd rfl rfl rfl (ao_shr rfl rfl (by first | decide | omega)) ?_
      refine al_opd rfl rfl rfl (ao_and rfl rfl) ?_
      first | refine al_opd rfl rfl rfl ((ao_conv ⟨_, Tryd.underlying83⟩ Tryd.underlying2 rfl).val (nw_i64 BDp BDp)) ?_ | refine al_opd rfl rfl rfl (ao_conv ⟨_, Tryd.underlying83⟩ Tryd.underlying2 rfl) ?_
      refine al_opd rfl rfl rfl (ao_as (v := .int _ _) rfl) ?_
      refine al_nilT ?_
      refine aw_ret ?_
      refine ends1 rfl (rv_tmp (v := .int _ _) rfl) ?_
      exact ⟨_, _, rfl, by first | omega | exact (and255w _).1, by first | omega | exact (and255w _).2, rfl⟩

-- (*spec.l00Src).pick
theorem srcPick_c {cv : Value} {l : List Int} {pb at_ : Nat} {seed : Int} {n : Int} {H : AHeap} (hs : H.blk pb = some (.cells [cv, .int .i64 (at_ : Nat), .int .u64 seed] 1)) (hc : Sl H u8 1 cv l) (hcb : l = [] ∨ vb cv ≠ pb) (hb : ∀ x ∈ l, 0 ≤ x ∧ x ≤ 255) (hl : l.length ≤ 3000) (ha : at_ ≤ 900000) (hn : -1000000 ≤ n ∧ n ≤ 1000000) : AC Tryd.prog 62 [.pointer (some ⟨pb, 0, none⟩), .int .i64 n] H (fun v' H' => ∃ (v : Int) (a' : Nat) (s' : Int), v' = .int .i64 v ∧ 0 ≤ v ∧ (1 < n → v < n) ∧ (¬ 1 < n → v = 0) ∧ at_ ≤ a' ∧ a' ≤ at_ + 2 ∧ H' = H.set pb (.cells [cv, .int .i64 (a' : Nat), .int .u64 s'] 1)) := by
  refine ac_body Tryd.func62 rfl Tryd.ntmps62 rfl ?_
  refine aw_seq ?_
  refine aw_region ?_
  refine al_opd rfl rfl rfl (ao_as (v := .int _ _) rfl) ?_
  refine al_nilT ?_
  refine aw_seq ?_
  refine aw_seq ?_
  refine aw_region ?_
  refine al_opd rfl rfl rfl (ao_mv (v := .int _ _) rfl) ?_
  refine al_opd rfl rfl rfl (ao_leq rfl rfl) ?_
  refine al_nilT ?_
  refine aw_cond rfl (fun h1_ => ?_) (fun h1_ => ?_)
  · try simp only [nrm] at h1_
    refine aw_seq ?_
    refine aw_region ?_
    refine al_opd rfl rfl rfl (ao_as (v := .int _ _) rfl) ?_
    refine al_nilT ?_
    refine aw_ret ?_
    refine thenA_r ?_
    refine ends1 rfl (rv_tmp (v := .int _ _) rfl) ?_
    exact ⟨0, at_, seed, rfl, by omega, by omega, by omega, by omega, by omega, (set_self hs).symm⟩
  · try simp only [nrm] at h1_
    refine aw_skipT ?_
    refine aw_seq ?_
    refine aw_region ?_
    refine al_opd rfl rfl rfl (ao_mv (v := .pointer _) rfl) ?_
    refine al_op rfl rfl rfl (ao_call Tryd.call75 rfl (srcNext_c (l := l) (at_ := at_) hs hc hcb hb hl (by omega)) rfl) ?_
    rintro _ H1 ⟨v1, s1, rfl, hv1, hw1, rfl⟩
    refine al_opd rfl rfl rfl (ao_as (v := .int _ _) rfl) ?_
    refine al_nilT ?_
    refine aw_seq ?_
    refine aw_seq ?_
    refine aw_region ?_
    refine al_opd rfl rfl rfl (ao_mv (v := .int _ _) rfl) ?_
    refine al_opd rfl rfl rfl (ao_gtr rfl rfl) ?_
    refine al_nilT ?_
    refine aw_cond rfl (fun h2_ => ?_) (fun h2_ => ?_)
    · try simp only [nrm] at h2_
      refine aw_region ?_
      refine al_opd rfl rfl rfl (ao_mv (v := .int _ _) rfl) ?_
      first | refine al_opd rfl rfl rfl ((ao_mul rfl rfl).val (nw_i64 BDp BDp)) ?_ | refine al_opd rfl rfl rfl (ao_mul rfl rfl) ?_
      refine al_opd rfl rfl rfl (ao_mv (v := .pointer _) rfl) ?_
      refine al_op rfl rfl rfl (ao_call Tryd.call75 rfl (srcNext_c (l := l) (at_ := at_ + 1) (by exact HLp) (hc.off ((OffP.refl H pb).setp _) hcb) hcb hb hl (by omega)) rfl) ?_
      rintro _ H1 ⟨v2, s2, rfl, hv2, hw2, rfl⟩
      rw [set_set]
      first | refine al_opd rfl rfl rfl ((ao_add rfl rfl).val (nw_i64 BDp BDp)) ?_ | refine al_opd rfl rfl rfl (ao_add rfl rfl) ?_
      refine al_opd rfl rfl rfl (ao_as (v := .int _ _) rfl) ?_
      refine al_nilT ?_
      refine aw_seq ?_
      refine aw_region ?_
      refine al_opd rfl rfl rfl (ao_mv (v := .int _ _) rfl) ?_
      refine al_opd rfl rfl rfl (ao_mv (v := .int _ _) rfl) ?_
      refine al_opd rfl rfl rfl (ao_rem rfl rfl (by first | decide | omega)) ?_
      refine al_opd rfl rfl rfl (ao_as (v := .int _ _) rfl) ?_
      refine al_nilT ?_
      refine aw_ret ?_
      refine ends1 rfl (rv_tmp (v := .int _ _) rfl) ?_
      have ht := tmod_in (x := v1 * 256 + v2) (n := n) (by omega) (by omega)
      exact ⟨_, at_ + 2, s2, rfl, ht.1, fun _ => ht.2, by omega, by omega, by omega, rfl⟩
    · try simp only [nrm] at h2_
      refine aw_skipT ?_
      refine aw_seq ?_
      refine aw_region ?_
      refine al_opd rfl rfl rfl (ao_mv (v := .int _ _) rfl) ?_
      refine al_opd rfl rfl rfl (ao_mv (v := .int _ _) rfl) ?_
      refine al_opd rfl rfl rfl (ao_rem rfl rfl (by first | decide | omega)) ?_
      refine al_opd rfl rfl rfl (ao_as (v := .int _ _) rfl) ?_
      refine al_nilT ?_
      refine aw_ret ?_
      refine ends1 rfl (rv_tmp (v := .int _ _) rfl) ?_
      have ht := tmod_in (x := v1) (n := n) (by omega) (by omega)
      exact ⟨_, at_ + 1, s1, rfl, ht.1, fun _ => ht.2, by omega, by omega, by omega, rfl⟩

-- (*spec.l00Src).one
theorem srcOne_c {cv : Value} {l : List Int} {pb at_ : Nat} {seed : Int} {n : Int} {H : AHeap} (hs : H.blk pb = some (.cells [cv, .int .i64 (at_ : Nat), .int .u64 seed] 1)) (hc : Sl H u8 1 cv l) (hcb : l = [] ∨ vb cv ≠ pb) (hb : ∀ x ∈ l, 0 ≤ x ∧ x ≤ 255) (hl : l.length ≤ 3000) (ha : at_ ≤ 900000) (hn : -1000000 ≤ n ∧ n ≤ 1000000) : AC Tryd.prog 63 [.pointer (some ⟨pb, 0, none⟩), .int .i64 n] H (fun v' H' => ∃ (b : Bool) (a' : Nat) (s' : Int), v' = .bool b ∧ at_ ≤ a' ∧ a' ≤ at_ + 2 ∧ H' = H.set pb (.cells [cv, .int .i64 (a' : Nat), .int .u64 s'] 1)) := by
  refine ac_body Tryd.func63 rfl Tryd.ntmps63 rfl ?_
  refine aw_seq ?_
  refine aw_region ?_
  refine al_opd rfl rfl rfl (ao_as (v := .bool _) rfl) ?_
  refine al_nilT ?_
  refine aw_seq ?_
  refine aw_region ?_
  refine al_opd rfl rfl rfl (ao_mv (v := .pointer _) rfl) ?_
  refine al_opd rfl rfl rfl (ao_mv (v := .int _ _) rfl) ?_
  refine al_op rfl rfl rfl (ao_call Tryd.call62 rfl (srcPick_c (l := l) (at_ := at_) (n := n) hs hc hcb hb hl ha hn) rfl) ?_
  rintro _ H1 ⟨v1, a1, s1, rfl, hv1, hw1, hz1, ha1, hb1, rfl⟩
  refine al_opd rfl rfl rfl (ao_eql rfl rfl) ?_
  refine al_opd rfl rfl rfl (ao_as (v := .bool _) rfl) ?_
  refine al_nilT ?_
  refine aw_ret ?_
  refine ends1 rfl (rv_tmp (v := .bool _) rfl) ?_
  exact ⟨_, a1, s1, rfl, ha1, hb1, rfl⟩

-- spec.l00From
theorem srcFromA_c {H : AHeap} : ACd Tryd.prog 33 [.slice none 0 0] H (.pointer (some ⟨H.next, 0, none⟩)) (H.push (.cells [.slice none 0 0, .int .i64 0, .int .u64 0] 1)) := by
  refine ac_body Tryd.func33 rfl Tryd.ntmps33 rfl ?_
  refine aw_seq ?_
  refine aw_region ?_
  refine al_opd rfl rfl rfl (ao_as (v := .pointer _) rfl) ?_
  refine al_nilT ?_
  refine aw_seq ?_
  refine aw_region ?_
  first | refine al_opd rfl rfl rfl (ao_mv (v := .slice _ _ _) rfl) ?_ | refine al_opd rfl rfl rfl (ao_mv (v := .slice none 0 0) rfl) ?_
  refine al_opd rfl rfl rfl (ao_build (A := #[.slice none 0 0, .int .i64 0, .int .u64 0]) Tryd.zeroValue85 (by rfl) (by first | rfl | kernel_rfl) (by rfl) (by first | rfl | kernel_rfl)) ?_
  refine al_opd rfl rfl rfl (ao_boxa (by rfl)) ?_
  refine al_opd rfl rfl rfl (ao_as (v := .pointer _) rfl) ?_
  refine al_nilT ?_
  refine aw_ret ?_
  refine ends1 rfl (rv_tmp (v := .pointer _) rfl) ?_
  exact ⟨rfl, rfl⟩

-- spec.l00From
theorem srcFromB_c {b o n c : Nat} {H : AHeap} : ACd Tryd.prog 33 [.slice (some ⟨b, o, none⟩) n c] H (.pointer (some ⟨H.next, 0, none⟩)) (H.push (.cells [.slice (some ⟨b, o, none⟩) n c, .int .i64 0, .int .u64 0] 1)) := by
  refine ac_body Tryd.func33 rfl Tryd.ntmps33 rfl ?_
  refine aw_seq ?_
  refine aw_region ?_
  refine al_opd rfl rfl rfl (ao_as (v := .pointer _) rfl) ?_
  refine al_nilT ?_
  refine aw_seq ?_
  refine aw_region ?_
  first | refine al_opd rfl rfl rfl (ao_mv (v := .slice _ _ _) rfl) ?_ | refine al_opd rfl rfl rfl (ao_mv (v := .slice (some ⟨b, o, none⟩) n c) rfl) ?_
  refine al_opd rfl rfl rfl (ao_build (A := #[.slice (some ⟨b, o, none⟩) n c, .int .i64 0, .int .u64 0]) Tryd.zeroValue85 (by rfl) (by first | rfl | kernel_rfl) (by rfl) (by first | rfl | kernel_rfl)) ?_
  refine al_opd rfl rfl rfl (ao_boxa (by rfl)) ?_
  refine al_opd rfl rfl rfl (ao_as (v := .pointer _) rfl) ?_
  refine al_nilT ?_
  refine aw_ret ?_
  refine ends1 rfl (rv_tmp (v := .pointer _) rfl) ?_
  exact ⟨rfl, rfl⟩

theorem srcFrom_c {cv : Value} {l : List Int} {H : AHeap} (hc : Sl H u8 1 cv l) : ACd Tryd.prog 33 [cv] H (.pointer (some ⟨H.next, 0, none⟩)) (H.push (.cells [cv, .int .i64 0, .int .u64 0] 1)) := by
  rcases hc.len0 with ⟨rfl, _⟩ | ⟨b, o, c, rfl⟩
  · exact srcFromA_c
  · exact srcFromB_c

-- spec.l01Drawn
theorem drawn_c {cv : Value} {l : List Int} {pb : Nat} {seed : Int} {H : AHeap} (hs : H.blk pb = some (.cells [cv, .int .i64 0, .int .u64 seed] 1)) (hc : Sl H u8 1 cv l) (hcb : l = [] ∨ vb cv ≠ pb) (hb : ∀ x ∈ l, 0 ≤ x ∧ x ≤ 255) (hl : l.length ≤ 3000) : AC Tryd.prog 32 [.pointer (some ⟨pb, 0, none⟩)] H (fun v' H' => ∃ r, v' = .agg (roomC r).toArray ∧ okRoom r ∧ wfRoom r ∧ (∃ s, isFree r s) ∧ OffP H H' pb) := by
  have hltp := AHeap.lt hs
  have a0e : (0 : Nat) ≤ 0 := Nat.le_refl _
  refine ac_body Tryd.func32 rfl Tryd.ntmps32 rfl ?_
  refine aw_seq ?_
  refine aw_region ?_
  refine al_opd rfl rfl rfl (ao_alloca (zv28) (by rfl)) ?_
  refine al_nilT ?_
  refine aw_seq ?_
  refine aw_region ?_
  refine al_opd rfl rfl rfl (ao_mv (v := .pointer _) rfl) ?_
  refine al_op rfl rfl rfl (ao_call Tryd.call62 rfl (srcPick_c (l := l) (pb := pb) (at_ := 0) (n := 6) (by exact HLp) (hc.off (by (repeat (first | exact OffP.refl _ _ | assumption | apply OffP.setp | refine OffP.setn ?_ (by exact LNp) _ | apply OffP.push))) hcb) hcb hb hl (by omega) (by omega)) rfl) ?_
  rintro _ H1_ ⟨v1, a1, s1, rfl, hv1, hw1, hz1, hA1, hB1, rfl⟩
  first | refine al_opd rfl rfl rfl ((ao_add rfl rfl).val (nw_i64 BDp BDp)) ?_ | refine al_opd rfl rfl rfl (ao_add rfl rfl) ?_
  first | refine al_opd rfl rfl rfl ((ao_conv ⟨_, Tryd.underlying2⟩ Tryd.underlying24 rfl).val (nw_i8 BDp BDp)) ?_ | refine al_opd rfl rfl rfl (ao_conv ⟨_, Tryd.underlying2⟩ Tryd.underlying24 rfl) ?_
  refine al_opd rfl rfl rfl (ao_mv (v := .pointer _) rfl) ?_
  refine al_op rfl rfl rfl (ao_call Tryd.call62 rfl (srcPick_c (l := l) (pb := pb) (at_ := a1) (n := 6) (by exact HLp) (hc.off (by (repeat (first | exact OffP.refl _ _ | assumption | apply OffP.setp | refine OffP.setn ?_ (by exact LNp) _ | apply OffP.push))) hcb) hcb hb hl (by omega) (by omega)) rfl) ?_
  rintro _ H2_ ⟨v2, a2, s2, rfl, hv2, hw2, hz2, hA2, hB2, rfl⟩
  have hE := empty_ok (w := 1 + v1) (h := 1 + v2) (by omega) (by omega) (by omega) (by omega)
  first | refine al_opd rfl rfl rfl ((ao_add rfl rfl).val (nw_i64 BDp BDp)) ?_ | refine al_opd rfl rfl rfl (ao_add rfl rfl) ?_
  first | refine al_opd rfl rfl rfl ((ao_conv ⟨_, Tryd.underlying2⟩ Tryd.underlying24 rfl).val (nw_i8 BDp BDp)) ?_ | refine al_opd rfl rfl rfl (ao_conv ⟨_, Tryd.underlying2⟩ Tryd.underlying24 rfl) ?_
  refine al_opd rfl rfl rfl (ao_build (A := (roomC ⟨1 + v1, 1 + v2, fun _ => 0⟩).toArray) Tryd.zeroValue28 (by rfl) (by first | rfl | kernel_rfl) (by rfl) (by first | rfl | kernel_rfl)) ?_
  refine al_opd rfl rfl rfl (ao_alloca (zv28) (by rfl)) ?_
  first | refine al_opd rfl rfl rfl ((ao_storeL Tryd.sizeOf28 (by rfl) (by rfl) (by exact HLp) (by first | rfl | exact wallsL _ _ (by omega) | exact roomL _ _ (by omega) | exact roomLI _ _ (by omega) | (simp; (first | done | fail))) (by first | rfl | exact wallsL _ _ (by omega) | exact roomL _ _ (by omega) | exact roomLI _ _ (by omega) | (simp; (first | done | fail))) (by first | rfl | exact wallsL _ _ (by omega) | exact roomL _ _ (by omega) | exact roomLI _ _ (by omega) | (simp; (first | done | fail)))).to (SetR.eq (by exact SRp))) ?_ | refine al_opd rfl rfl rfl ((ao_storeP (ds := [.int _ _, .int _ _, .int _ _, .int _ _, .int _ _, .int _ _, .int _ _, .int _ _, .int _ _, .int _ _, .int _ _, .int _ _]) Tryd.sizeOf28 (by rfl) (by rfl) (by exact HLp) (by first | rfl | exact wallsL _ _ (by omega) | exact roomL _ _ (by omega) | exact roomLI _ _ (by omega) | (simp; (first | done | fail))) (by first | rfl | exact wallsL _ _ (by omega) | exact roomL _ _ (by omega) | exact roomLI _ _ (by omega) | (simp; (first | done | fail))) (by exact LTp)).to (SetR.eq (by exact SRp))) ?_
  refine al_nilT ?_
  refine aw_seq ?_
  refine aw_region ?_
  refine al_opd rfl rfl rfl (ao_mv (v := .pointer _) rfl) ?_
  refine al_op rfl rfl rfl (ao_call Tryd.call62 rfl (srcPick_c (l := l) (pb := pb) (at_ := a2) (n := 6) (by exact HLp) (hc.off (by (repeat (first | exact OffP.refl _ _ | assumption | apply OffP.setp | refine OffP.setn ?_ (by exact LNp) _ | apply OffP.push))) hcb) hcb hb hl (by omega) (by omega)) rfl) ?_
  rintro _ H3_ ⟨v3, a3, s3, rfl, hv3, hw3, hz3, hA3, hB3, rfl⟩
  first | refine al_opd rfl rfl rfl ((ao_add rfl rfl).val (nw_i64 BDp BDp)) ?_ | refine al_opd rfl rfl rfl (ao_add rfl rfl) ?_
  refine al_opd rfl rfl rfl (ao_as (v := .int _ _) rfl) ?_
  refine al_nilT ?_
  refine aw_seq ?_
  refine aw_seq ?_
  refine aw_region ?_
  refine al_opd rfl rfl rfl (ao_as (v := .int _ _) rfl) ?_
  refine al_nilT ?_
  refine aw_block ?_
  refine aw_loop (fun (gk : Nat) (fr : AFr) (G : AHeap) => ∃ get : Nat → Value, fr = ⟨55, get⟩ ∧ (∃ (y a : Nat) (s : Int) (R : Room), (y : Int) ≤ 1 + v2 ∧ gk = (1 + v2).toNat - y ∧ a ≤ 10 + 20 * y ∧ R.w = 1 + v1 ∧ R.h = 1 + v2 ∧ okRoom R ∧ wfRoom R ∧ OffP H G pb ∧ H.next + 2 ≤ G.next ∧ G.blk pb = some (.cells [cv, .int .i64 (a : Nat), .int .u64 s] 1) ∧ G.blk (H.next + 1) = some (.cells (roomC R) 1) ∧ (∃ q, G.blk H.next = some (.cells (roomC q) 1)) ∧ get 0 = .pointer (some ⟨pb, 0, none⟩) ∧ get 2 = .pointer (some ⟨H.next, 0, none⟩) ∧ get 3 = .pointer (some ⟨H.next + 1, 0, none⟩) ∧ get 4 = .int .i64 (2 + v3) ∧ get 5 = .int .i8 y)) ((1 + v2).toNat) ⟨_, rfl, ?_⟩ ?_
  · refine ⟨0, a3, s3, ⟨1 + v1, 1 + v2, fun _ => 0⟩, by omega, rfl, by omega, rfl, rfl, hE.1, hE.2, by (repeat (first | exact OffP.refl _ _ | assumption | apply OffP.setp | refine OffP.setn ?_ (by exact LNp) _ | apply OffP.push)), ?_, by exact HLp, by exact HLp, ⟨⟨0, 0, fun _ => 0⟩, by exact HLp⟩, rfl, rfl, rfl, rfl, rfl⟩ <;> exact LNp
  · rintro gk fr G ⟨get, rfl, y, a, s, R, hy, rfl, ha, hRw, hRh, hok, hwf, hO, hnx, hbs, hbr, ⟨q, hbq⟩, g0, g2, g3, g4, g5⟩
    refine aw_slot (d := 0) (v := .pointer (some ⟨pb, 0, none⟩)) (by first | assumption | rfl) ?_
    refine aw_slot (d := 2) (v := .pointer (some ⟨H.next, 0, none⟩)) (by first | assumption | rfl) ?_
    refine aw_slot (d := 3) (v := .pointer (some ⟨H.next + 1, 0, none⟩)) (by first | assumption | rfl) ?_
    refine aw_slot (d := 4) (v := .int .i64 (2 + v3)) (by first | assumption | rfl) ?_
    refine aw_slot (d := 5) (v := .int .i8 y) (by first | assumption | rfl) ?_
    refine aw_seq ?_
    refine aw_seq ?_
    refine aw_region ?_
    refine al_opd rfl rfl rfl (ao_mv (v := .int _ _) rfl) ?_
    refine al_opd rfl rfl rfl (ao_fieldAddr fo_28_1 rfl) ?_
    refine al_opd rfl rfl rfl (ao_load (v := .int _ _) Tryd.isAgg24 (by rfl) (by exact HLp) (by rfl) (by first | rfl | exact wallsL _ _ (by omega) | exact roomL _ _ (by omega) | exact roomLI _ _ (by omega) | (simp; (first | done | fail)))) ?_
    refine al_opd rfl rfl rfl (ao_lss rfl rfl) ?_
    refine al_nilT ?_
    refine aw_cond rfl (fun h1_ => ?_) (fun h1_ => ?_)
    · try simp only [nrm] at h1_
      refine aw_skipT ?_
      refine aw_seq ?_
      refine aw_block ?_
      refine aw_seq ?_
      refine aw_region ?_
      refine al_opd rfl rfl rfl (ao_as (v := .int _ _) rfl) ?_
      refine al_nilT ?_
      refine aw_block ?_
      refine aw_loop (fun (gk : Nat) (fr : AFr) (G : AHeap) => ∃ get : Nat → Value, fr = ⟨55, get⟩ ∧ (∃ (x a : Nat) (s : Int) (R : Room), (x : Int) ≤ 1 + v1 ∧ gk = (1 + v1).toNat - x ∧ a ≤ 10 + 20 * y + 2 * x ∧ R.w = 1 + v1 ∧ R.h = 1 + v2 ∧ okRoom R ∧ wfRoom R ∧ OffP H G pb ∧ H.next + 2 ≤ G.next ∧ G.blk pb = some (.cells [cv, .int .i64 (a : Nat), .int .u64 s] 1) ∧ G.blk (H.next + 1) = some (.cells (roomC R) 1) ∧ (∃ q, G.blk H.next = some (.cells (roomC q) 1)) ∧ get 0 = .pointer (some ⟨pb, 0, none⟩) ∧ get 2 = .pointer (some ⟨H.next, 0, none⟩) ∧ get 3 = .pointer (some ⟨H.next + 1, 0, none⟩) ∧ get 4 = .int .i64 (2 + v3) ∧ get 5 = .int .i8 y ∧ get 6 = .int .i8 x)) ((1 + v1).toNat) ⟨_, rfl, ?_⟩ ?_
      · exact ⟨0, a, s, R, by omega, rfl, by omega, hRw, hRh, hok, hwf, hO, hnx, hbs, hbr, ⟨q, hbq⟩, rfl, rfl, rfl, rfl, rfl, rfl⟩
      · rintro gk fr G ⟨get, rfl, x, a, s, R, hx, rfl, ha, hRw, hRh, hok, hwf, hO, hnx, hbs, hbr, ⟨q, hbq⟩, g0, g2, g3, g4, g5, g6⟩
        refine aw_slot (d := 0) (v := .pointer (some ⟨pb, 0, none⟩)) (by first | assumption | rfl) ?_
        refine aw_slot (d := 2) (v := .pointer (some ⟨H.next, 0, none⟩)) (by first | assumption | rfl) ?_
        refine aw_slot (d := 3) (v := .pointer (some ⟨H.next + 1, 0, none⟩)) (by first | assumption | rfl) ?_
        refine aw_slot (d := 4) (v := .int .i64 (2 + v3)) (by first | assumption | rfl) ?_
        refine aw_slot (d := 5) (v := .int .i8 y) (by first | assumption | rfl) ?_
        refine aw_slot (d := 6) (v := .int .i8 x) (by first | assumption | rfl) ?_
        refine aw_seq ?_
        refine aw_seq ?_
        refine aw_region ?_
        refine al_opd rfl rfl rfl (ao_mv (v := .int _ _) rfl) ?_
        refine al_opd rfl rfl rfl (ao_fieldAddr fo_28_0 rfl) ?_
        refine al_opd rfl rfl rfl (ao_load (v := .int _ _) Tryd.isAgg24 (by rfl) (by exact HLp) (by rfl) (by first | rfl | exact wallsL _ _ (by omega) | exact roomL _ _ (by omega) | exact roomLI _ _ (by omega) | (simp; (first | done | fail)))) ?_
        refine al_opd rfl rfl rfl (ao_lss rfl rfl) ?_
        refine al_nilT ?_
        refine aw_cond rfl (fun h2_ => ?_) (fun h2_ => ?_)
        · try simp only [nrm] at h2_
          refine aw_skipT ?_
          refine aw_seq ?_
          refine aw_block ?_
          refine aw_seq ?_
          refine aw_region ?_
          refine al_opd rfl rfl rfl (ao_mv (v := .pointer _) rfl) ?_
          refine al_opd rfl rfl rfl (ao_mv (v := .int _ _) rfl) ?_
          refine al_op rfl rfl rfl (ao_call Tryd.call63 rfl (srcOne_c (l := l) (pb := pb) (at_ := a) (n := 2 + v3) hbs (hc.off hO hcb) hcb hb hl (by omega) (by omega)) rfl) ?_
          rintro _ H4_ ⟨bo, a4, s4, rfl, hA4, hB4, rfl⟩
          have hcl := cell_xy (x := x) (y := y) hok (by omega) (by omega)
          refine al_nilT ?_
          refine aw_cond rfl (fun h3_ => ?_) (fun h3_ => ?_)
          · try simp only [nrm] at h3_
            refine aw_region ?_
            refine al_opd rfl rfl rfl (ao_mv (v := .int _ _) rfl) ?_
            refine al_opd rfl rfl rfl (ao_mv (v := .int _ _) rfl) ?_
            refine al_opd rfl rfl rfl (ao_build (A := #[.int .i8 (x : Int), .int .i8 (y : Int)]) Tryd.zeroValue48 (by rfl) (by first | rfl | kernel_rfl) (by rfl) (by first | rfl | kernel_rfl)) ?_
            refine al_opd rfl rfl rfl ((ao_calld (l01Wall_c (r := R) (s := ⟨(x : Int), (y : Int)⟩) (on := true) (by exact HLp) ⟨by show (0 : Int) ≤ (x : Int); omega, by show (x : Int) < 10; omega⟩ ⟨by show (0 : Int) ≤ (y : Int); omega, by show (y : Int) < 10; omega⟩) Tryd.call45 rfl rfl).to (SetR.eq (by exact SRp))) ?_
            refine al_nilB ?_
            refine thenA_n ?_
            refine aw_region ?_
            refine al_opd rfl rfl rfl (ao_mv (v := .int _ _) rfl) ?_
            first | refine al_opd rfl rfl rfl ((ao_add rfl rfl).val (nw_i8 BDp BDp)) ?_ | refine al_opd rfl rfl rfl (ao_add rfl rfl) ?_
            refine al_opd rfl rfl rfl (ao_as (v := .int _ _) rfl) ?_
            refine al_nilT ?_
            exact ⟨_, by omega, _, rfl, x + 1, a4, s4, wallR R ⟨(x : Int), (y : Int)⟩ true, by omega, rfl, by omega, (wallR_dims _ _ _).1.trans hRw, (wallR_dims _ _ _).2.trans hRh, wallR_ok hok hwf hcl, wallR_wf hwf, by (repeat (first | exact OffP.refl _ _ | assumption | apply OffP.setp | refine OffP.setn ?_ (by exact LNp) _ | apply OffP.push)), hnx, by exact HLp, by exact HLp, ⟨q, by exact HLp⟩, rfl, rfl, rfl, rfl, rfl, by rfl⟩
          · try simp only [nrm] at h3_
            refine aw_skipB ?_
            refine thenA_n ?_
            refine aw_region ?_
            refine al_opd rfl rfl rfl (ao_mv (v := .int _ _) rfl) ?_
            first | refine al_opd rfl rfl rfl ((ao_add rfl rfl).val (nw_i8 BDp BDp)) ?_ | refine al_opd rfl rfl rfl (ao_add rfl rfl) ?_
            refine al_opd rfl rfl rfl (ao_as (v := .int _ _) rfl) ?_
            refine al_nilT ?_
            exact ⟨_, by omega, _, rfl, x + 1, a4, s4, R, by omega, rfl, by omega, hRw, hRh, hok, hwf, by (repeat (first | exact OffP.refl _ _ | assumption | apply OffP.setp | refine OffP.setn ?_ (by exact LNp) _ | apply OffP.push)), hnx, by exact HLp, by exact HLp, ⟨q, by exact HLp⟩, rfl, rfl, rfl, rfl, rfl, by rfl⟩
        · try simp only [nrm] at h2_
          refine aw_exit ?_
          refine thenA_x ?_
          refine thenA_x ?_
          refine blockA_hit ?_
          refine blockA_n ?_
          refine thenA_n ?_
          refine aw_region ?_
          refine al_opd rfl rfl rfl (ao_mv (v := .int _ _) rfl) ?_
          first | refine al_opd rfl rfl rfl ((ao_add rfl rfl).val (nw_i8 BDp BDp)) ?_ | refine al_opd rfl rfl rfl (ao_add rfl rfl) ?_
          refine al_opd rfl rfl rfl (ao_as (v := .int _ _) rfl) ?_
          refine al_nilT ?_
          exact ⟨_, by omega, _, rfl, y + 1, a, s, R, by omega, rfl, by omega, hRw, hRh, hok, hwf, hO, hnx, hbs, hbr, ⟨q, hbq⟩, rfl, rfl, rfl, rfl, by rfl⟩
    · try simp only [nrm] at h1_
      have hok2 := hok.1
      refine aw_exit ?_
      refine thenA_x ?_
      refine thenA_x ?_
      refine blockA_hit ?_
      refine thenA_n ?_
      refine aw_seq ?_
      refine aw_region ?_
      refine al_opd rfl rfl rfl (ao_mv (v := .pointer _) rfl) ?_
      refine al_opd rfl rfl rfl (ao_fieldAddr fo_28_0 rfl) ?_
      refine al_opd rfl rfl rfl (ao_load (v := .int _ _) Tryd.isAgg24 (by rfl) (by exact HLp) (by rfl) (by first | rfl | exact wallsL _ _ (by omega) | exact roomL _ _ (by omega) | exact roomLI _ _ (by omega) | (simp; (first | done | fail)))) ?_
      first | refine al_opd rfl rfl rfl ((ao_conv ⟨_, Tryd.underlying24⟩ Tryd.underlying2 rfl).val (nw_i64 BDp BDp)) ?_ | refine al_opd rfl rfl rfl (ao_conv ⟨_, Tryd.underlying24⟩ Tryd.underlying2 rfl) ?_
      refine al_op rfl rfl rfl (ao_call Tryd.call62 rfl (srcPick_c (l := l) (pb := pb) (at_ := a) (n := R.w) (by exact HLp) (hc.off (by (repeat (first | exact OffP.refl _ _ | assumption | apply OffP.setp | refine OffP.setn ?_ (by exact LNp) _ | apply OffP.push))) hcb) hcb hb hl (by omega) (by omega)) rfl) ?_
      rintro _ H5_ ⟨v5, a5, s5, rfl, hv5, hw5, hz5, hA5, hB5, rfl⟩
      refine al_opd rfl rfl rfl (ao_as (v := .int _ _) rfl) ?_
      refine al_nilT ?_
      refine aw_seq ?_
      refine aw_region ?_
      refine al_opd rfl rfl rfl (ao_mv (v := .int _ _) rfl) ?_
      first | refine al_opd rfl rfl rfl ((ao_conv ⟨_, Tryd.underlying2⟩ Tryd.underlying24 rfl).val (nw_i8 BDp BDp)) ?_ | refine al_opd rfl rfl rfl (ao_conv ⟨_, Tryd.underlying2⟩ Tryd.underlying24 rfl) ?_
      refine al_opd rfl rfl rfl (ao_mv (v := .pointer _) rfl) ?_
      refine al_opd rfl rfl rfl (ao_fieldAddr fo_28_1 rfl) ?_
      refine al_opd rfl rfl rfl (ao_load (v := .int _ _) Tryd.isAgg24 (by rfl) (by exact HLp) (by rfl) (by first | rfl | exact wallsL _ _ (by omega) | exact roomL _ _ (by omega) | exact roomLI _ _ (by omega) | (simp; (first | done | fail)))) ?_
      first | refine al_opd rfl rfl rfl ((ao_conv ⟨_, Tryd.underlying24⟩ Tryd.underlying2 rfl).val (nw_i64 BDp BDp)) ?_ | refine al_opd rfl rfl rfl (ao_conv ⟨_, Tryd.underlying24⟩ Tryd.underlying2 rfl) ?_
      refine al_op rfl rfl rfl (ao_call Tryd.call62 rfl (srcPick_c (l := l) (pb := pb) (at_ := a5) (n := R.h) (by exact HLp) (hc.off (by (repeat (first | exact OffP.refl _ _ | assumption | apply OffP.setp | refine OffP.setn ?_ (by exact LNp) _ | apply OffP.push))) hcb) hcb hb hl (by omega) (by omega)) rfl) ?_
      rintro _ H6_ ⟨v6, a6, s6, rfl, hv6, hw6, hz6, hA6, hB6, rfl⟩
      have hcl := cell_ofI (x := v5) (y := v6) hok (by omega) (by omega) (by omega) (by omega)
      first | refine al_opd rfl rfl rfl ((ao_conv ⟨_, Tryd.underlying2⟩ Tryd.underlying24 rfl).val (nw_i8 BDp BDp)) ?_ | refine al_opd rfl rfl rfl (ao_conv ⟨_, Tryd.underlying2⟩ Tryd.underlying24 rfl) ?_
      refine al_opd rfl rfl rfl (ao_build (A := #[.int .i8 v5, .int .i8 v6]) Tryd.zeroValue48 (by rfl) (by first | rfl | kernel_rfl) (by rfl) (by first | rfl | kernel_rfl)) ?_
      refine al_opd rfl rfl rfl ((ao_calld (l01Wall_c (r := R) (s := ⟨v5, v6⟩) (on := false) (by exact HLp) ⟨by show (0 : Int) ≤ v5; omega, by show v5 < 10; omega⟩ ⟨by show (0 : Int) ≤ v6; omega, by show v6 < 10; omega⟩) Tryd.call45 rfl rfl).to (SetR.eq (by exact SRp))) ?_
      refine al_nilT ?_
      refine aw_seq ?_
      refine aw_region ?_
      refine al_opd rfl rfl rfl (ao_loada Tryd.isAgg28 Tryd.sizeOf28 rfl (by exact HLp) (by rfl) (by first | rfl | exact wallsL _ _ (by omega) | exact roomL _ _ (by omega) | exact roomLI _ _ (by omega) | (simp; (first | done | fail)))) ?_
      first | refine al_opd rfl rfl rfl ((ao_storeL Tryd.sizeOf28 (by rfl) (by rfl) (by exact HLp) (by first | rfl | exact wallsL _ _ (by omega) | exact roomL _ _ (by omega) | exact roomLI _ _ (by omega) | (simp; (first | done | fail))) (by first | rfl | exact wallsL _ _ (by omega) | exact roomL _ _ (by omega) | exact roomLI _ _ (by omega) | (simp; (first | done | fail))) (by first | rfl | exact wallsL _ _ (by omega) | exact roomL _ _ (by omega) | exact roomLI _ _ (by omega) | (simp; (first | done | fail)))).to (SetR.eq (by exact SRp))) ?_ | refine al_opd rfl rfl rfl ((ao_storeP (ds := [.int _ _, .int _ _, .int _ _, .int _ _, .int _ _, .int _ _, .int _ _, .int _ _, .int _ _, .int _ _, .int _ _, .int _ _]) Tryd.sizeOf28 (by rfl) (by rfl) (by exact HLp) (by first | rfl | exact wallsL _ _ (by omega) | exact roomL _ _ (by omega) | exact roomLI _ _ (by omega) | (simp; (first | done | fail))) (by first | rfl | exact wallsL _ _ (by omega) | exact roomL _ _ (by omega) | exact roomLI _ _ (by omega) | (simp; (first | done | fail))) (by exact LTp)).to (SetR.eq (by exact SRp))) ?_
      refine al_nilT ?_
      refine aw_ret ?_
      refine ends1 rfl (rv_cella Tryd.isAgg28 Tryd.sizeOf28 rfl (by exact HLp) (by rfl) (by first | rfl | exact wallsL _ _ (by omega) | exact roomL _ _ (by omega) | exact roomLI _ _ (by omega) | (simp; (first | done | fail)))) ?_
      exact ⟨_, rfl, wallR_ok hok hwf hcl, wallR_wf hwf, ⟨_, wallR_free hwf hcl⟩, by (repeat (first | exact OffP.refl _ _ | assumption | apply OffP.setp | refine OffP.setn ?_ (by exact LNp) _ | apply OffP.push))⟩

-- spec.A2Room
theorem a2room_c {cv : Value} {l : List Int} {H : AHeap} (hc : Sl H u8 1 cv l) (hb : ∀ x ∈ l, 0 ≤ x ∧ x ≤ 255) (hl : l.length ≤ 3000) : AC Tryd.prog 5 [cv] H (fun v' H' => ∃ r, v' = .agg (roomC r).toArray ∧ okRoom r ∧ wfRoom r ∧ (∃ s, isFree r s) ∧ Same H.next H H' ∧ H.next ≤ H'.next) := by
  refine ac_body Tryd.func5 rfl Tryd.ntmps5 rfl ?_
  refine aw_seq ?_
  refine aw_region ?_
  refine al_opd rfl rfl rfl (ao_alloca (zv28) (by rfl)) ?_
  refine al_nilT ?_
  refine aw_seq ?_
  refine aw_region ?_
  first | refine al_opd rfl rfl rfl (ao_mv (v := .slice _ _ _) rfl) ?_ | refine al_opd rfl rfl rfl (ao_mv (v := cv) rfl) ?_
  refine al_opd rfl rfl rfl (ao_calld (srcFrom_c (hc.mono (by exact SMp))) Tryd.call33 rfl rfl) ?_
  refine al_op rfl rfl rfl (ao_call Tryd.call32 rfl (drawn_c (l := l) (pb := H.next + 1) (by exact HLp) (hc.mono (by exact SMp)) (hc.apart (by exact LEp)) hb hl) rfl) ?_
  rintro _ H1 ⟨r, rfl, hr, hw, hfr, hO⟩
  have hb0 : H1.blk H.next = some (.cells (roomC ⟨0, 0, fun _ => 0⟩) 1) := (hO.2 _ (by exact LNp) (by exact LNp)).trans (by exact HLp)
  have hS : Same H.next H H1 := Same.trans (by exact SMp) (hO.same (n := H.next) (by exact LNp) (by omega)) (Nat.le_refl _)
  have hN := hO.1
  simp only [next_push] at hN
  first | refine al_opd rfl rfl rfl ((ao_storeL Tryd.sizeOf28 (by rfl) (by rfl) (by exact HLp) (by exact RFp) (by exact RFp) (by exact RFp)).to (SetR.eq (by exact SRp))) ?_ | refine al_opd rfl rfl rfl ((ao_storeP (ds := [.int _ _, .int _ _, .int _ _, .int _ _, .int _ _, .int _ _, .int _ _, .int _ _, .int _ _, .int _ _, .int _ _, .int _ _]) Tryd.sizeOf28 (by rfl) (by rfl) (by exact HLp) (by exact RFp) (by exact RFp) (by exact LTp)).to (SetR.eq (by exact SRp))) ?_
  refine al_nilT ?_
  refine aw_ret ?_
  refine ends1 rfl (rv_cella Tryd.isAgg28 Tryd.sizeOf28 rfl (by exact HLp) (by rfl) (by exact RFp)) ?_
  exact ⟨r, rfl, hr, hw, hfr, by exact SMp, by exact LEp⟩

-- laws.a2Long
theorem a2Long_c {v u : Value} {l m : List Int} {H : AHeap} (hv : Sl H u8 1 v l) (hu : Sl H u8 1 u m) : ACd Tryd.prog 4 [v, u] H (.bool (decide (3000 < l.length) || decide (3000 < m.length))) (H) := by
  refine ac_gc0 (fun β => VR.plainT β (by first | rfl | simp [plainT, plainV, plain1])) (ac_body Tryd.func4 rfl Tryd.ntmps4 rfl ?_)
  refine aw_seq ?_
  refine aw_region ?_
  refine al_opd rfl rfl rfl (ao_as (v := .bool _) rfl) ?_
  refine al_nilT ?_
  refine aw_seq ?_
  refine aw_region ?_
  first | refine al_opd rfl rfl rfl (ao_mv (v := .slice _ _ _) rfl) ?_ | refine al_opd rfl rfl rfl (ao_mv (v := v) rfl) ?_ | refine al_opd rfl rfl rfl (ao_mv (v := u) rfl) ?_
  first | refine al_opd rfl rfl rfl (ao_lenS Tryd.underlying22 (by rfl)) ?_ | refine al_opd rfl rfl rfl (ao_lenN Tryd.underlying22 (by rfl)) ?_ | refine al_opd rfl rfl rfl (ao_lenV Tryd.underlying22 rfl hv) ?_ | refine al_opd rfl rfl rfl (ao_lenV Tryd.underlying22 rfl hu) ?_
  refine al_opd rfl rfl rfl (ao_gtr rfl rfl) ?_
  refine al_opd rfl rfl rfl (ao_mv (v := .bool _) rfl) ?_
  refine al_cases (d := 8) rfl (fun h1_ => ?_) (fun h1_ => ?_)
  · try simp only [nrm] at h1_
    refine al_gno rfl rfl rfl rfl rfl ?_
    refine al_gno rfl rfl rfl rfl rfl ?_
    refine al_gno rfl rfl rfl rfl rfl ?_
    refine al_opd rfl rfl rfl (ao_pickT rfl (v := .bool _) rfl) ?_
    refine al_opd rfl rfl rfl (ao_as (v := .bool _) rfl) ?_
    refine al_nilT ?_
    refine aw_ret ?_
    refine ends1 rfl (rv_tmp (v := .bool _) rfl) ?_
    refine ⟨congrArg Value.bool ?_, by exact SMp⟩
    rw [Bool.eq_iff_iff]
    first | (simp only [Bool.or_eq_true, decide_eq_true_eq, true_iff, iff_true, Bool.false_eq_true, false_iff]; omega) | (simp; omega)
  · try simp only [nrm] at h1_
    first | refine al_gyes rfl rfl rfl rfl rfl (ao_mv (v := .slice _ _ _) rfl) ?_ | refine al_gyes rfl rfl rfl rfl rfl (ao_mv (v := v) rfl) ?_ | refine al_gyes rfl rfl rfl rfl rfl (ao_mv (v := u) rfl) ?_
    first | refine al_gyes rfl rfl rfl rfl rfl (ao_lenS Tryd.underlying22 (by rfl)) ?_ | refine al_gyes rfl rfl rfl rfl rfl (ao_lenN Tryd.underlying22 (by rfl)) ?_ | refine al_gyes rfl rfl rfl rfl rfl (ao_lenV Tryd.underlying22 rfl hv) ?_ | refine al_gyes rfl rfl rfl rfl rfl (ao_lenV Tryd.underlying22 rfl hu) ?_
    refine al_gyes rfl rfl rfl rfl rfl (ao_gtr rfl rfl) ?_
    refine al_opd rfl rfl rfl (ao_pickF rfl (v := .bool _) rfl) ?_
    refine al_opd rfl rfl rfl (ao_as (v := .bool _) rfl) ?_
    refine al_nilT ?_
    refine aw_ret ?_
    refine ends1 rfl (rv_tmp (v := .bool _) rfl) ?_
    refine ⟨congrArg Value.bool ?_, by exact SMp⟩
    rw [Bool.eq_iff_iff]
    first | (simp only [Bool.or_eq_true, decide_eq_true_eq, true_iff, iff_true, Bool.false_eq_true, false_iff]; omega) | (simp; omega)

end Go.Proofs.YtmmmjdbknepjgaaDoor
