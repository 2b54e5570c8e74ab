/- Contracts of the program's functions over abstract heaps. -/
import Derived.Test.YtmmmjdbknepjgaaDoorRm
namespace Go.Proofs.YtmmmjdbknepjgaaDoor
open Go Go.AW Go.Proofs
set_option linter.unusedVariables false
set_option linter.unusedSimpArgs false
set_option maxRecDepth 100000
set_option maxHeartbeats 2000000

-- impl.ValidRoom
theorem implValid_c {r : Room} {b : Bool} {H : AHeap} (hw : wfRoom r) (hb : b = true ↔ okRoom r) : ACd Tryd.prog 17 [.agg (roomC r).toArray] H (.bool b) (H) := by
  have ⟨⟨w1, w2⟩, ⟨w3, w4⟩, w5⟩ := hw
  refine ac_gc0 (fun β => VR.plainT β (by first | rfl | simp [plainT, plainV, plain1])) (ac_body Tryd.func17 rfl Tryd.ntmps17 rfl ?_)
  refine aw_seq ?_
  refine aw_region ?_
  refine al_opd rfl rfl rfl (ao_boxa (by rfl)) ?_
  refine al_opd rfl rfl rfl (ao_as (v := .bool _) rfl) ?_
  refine al_nilT ?_
  refine aw_seq ?_
  refine aw_seq ?_
  refine aw_region ?_
  refine al_opd rfl rfl rfl (ao_fieldAddr fo_28_0 rfl) ?_
  refine al_opd rfl rfl rfl (ao_load (v := .int _ _) Tryd.isAgg24 (by rfl) (by exact HLp) (by rfl) (by first | rfl | exact wallsL _ _ (by omega) | exact roomL _ _ (by omega) | exact roomLI _ _ (by omega) | (simp; (first | done | fail)))) ?_
  first | refine al_opd rfl rfl rfl ((ao_conv ⟨_, Tryd.underlying24⟩ Tryd.underlying2 rfl).val (nw_i64 BDp BDp)) ?_ | refine al_opd rfl rfl rfl (ao_conv ⟨_, Tryd.underlying24⟩ Tryd.underlying2 rfl) ?_
  refine al_opd rfl rfl rfl (ao_calld (within_c) Tryd.call53 rfl rfl) ?_
  refine al_opd rfl rfl rfl (ao_not rfl) ?_
  refine al_opd rfl rfl rfl (ao_mv (v := .bool _) rfl) ?_
  refine al_cases (d := 10) rfl (fun h1_ => ?_) (fun h1_ => ?_)
  · try simp only [nrm] at h1_
    refine al_gno rfl rfl rfl rfl rfl ?_
    refine al_gno rfl rfl rfl rfl rfl ?_
    refine al_gno rfl rfl rfl rfl rfl ?_
    refine al_gno rfl rfl rfl rfl rfl ?_
    refine al_gno rfl rfl rfl rfl rfl ?_
    refine al_opd rfl rfl rfl (ao_pickT rfl (v := .bool _) rfl) ?_
    refine al_nilT ?_
    refine aw_condT (by rfl) ⟨_, rfl⟩ ?_
    refine aw_seq ?_
    refine aw_region ?_
    refine al_opd rfl rfl rfl (ao_as (v := .bool _) rfl) ?_
    refine al_nilT ?_
    refine aw_ret ?_
    refine thenA_r ?_
    refine ends1 rfl (rv_tmp (v := .bool _) rfl) ?_
    exact ⟨bf hb (fun ⟨q1, q2, q3, q4, q5⟩ => by omega), by exact SMp⟩
  · try simp only [nrm] at h1_
    refine al_gyes rfl rfl rfl rfl rfl (ao_fieldAddr fo_28_1 rfl) ?_
    refine al_gyes rfl rfl rfl rfl rfl (ao_load (v := .int _ _) Tryd.isAgg24 (by rfl) (by exact HLp) (by rfl) (by first | rfl | exact wallsL _ _ (by omega) | exact roomL _ _ (by omega) | exact roomLI _ _ (by omega) | (simp; (first | done | fail)))) ?_
    first | refine al_gyes rfl rfl rfl rfl rfl ((ao_conv ⟨_, Tryd.underlying24⟩ Tryd.underlying2 rfl).val (nw_i64 BDp BDp)) ?_ | refine al_gyes rfl rfl rfl rfl rfl (ao_conv ⟨_, Tryd.underlying24⟩ Tryd.underlying2 rfl) ?_
    refine al_gyes rfl rfl rfl rfl rfl (ao_calld (within_c) Tryd.call53 rfl rfl) ?_
    refine al_gyes rfl rfl rfl rfl rfl (ao_not rfl) ?_
    refine al_opd rfl rfl rfl (ao_pickF rfl (v := .bool _) rfl) ?_
    refine al_nilT ?_
    refine aw_cond rfl (fun h2_ => ?_) (fun h2_ => ?_)
    · try simp only [nrm] at h2_
      refine aw_seq ?_
      refine aw_region ?_
      refine al_opd rfl rfl rfl (ao_as (v := .bool _) rfl) ?_
      refine al_nilT ?_
      refine aw_ret ?_
      refine thenA_r ?_
      refine ends1 rfl (rv_tmp (v := .bool _) rfl) ?_
      exact ⟨bf hb (fun ⟨q1, q2, q3, q4, q5⟩ => by omega), by exact SMp⟩
    · try simp only [nrm] at h2_
      refine aw_skipT ?_
      refine aw_seq ?_
      refine aw_seq ?_
      refine aw_region ?_
      refine al_opd rfl rfl rfl (ao_fieldAddr fo_28_2 rfl) ?_
      refine al_opd rfl rfl rfl (ao_loadp (ds := wallsC r.f) Tryd.isAgg26 Tryd.sizeOf26 rfl (by exact HLp) (by rfl) (by exact Nat.le_of_ble_eq_true rfl) (by rfl)) ?_
      refine al_opd rfl rfl rfl (ao_mv (v := .int _ _) rfl) ?_
      refine al_nilT ?_
      refine aw_block ?_
      refine aw_loop (fun (gk : Nat) (fr : AFr) (G : AHeap) => ∃ get : Nat → Value, fr = ⟨40, get⟩ ∧ (∃ i : Nat, i ≤ 10 ∧ gk = 10 - i ∧ G = H.push (.cells (roomC r) 1) ∧ (∀ j, j < i → rowOk r j) ∧ get 1 = .pointer (some ⟨H.next, 0, none⟩) ∧ get 18 = .agg (wallsC r.f).toArray ∧ get 19 = .int .i64 i)) (10) ⟨_, rfl, ?_⟩ ?_
      · exact ⟨0, by omega, rfl, rfl, fun j h => by omega, rfl, rfl, rfl⟩
      · rintro gk fr G ⟨get, rfl, i, hi, rfl, rfl, hm, g1, g18, g19⟩
        refine aw_slot (d := 1) (v := .pointer (some ⟨H.next, 0, none⟩)) (by first | assumption | rfl) ?_
        refine aw_slot (d := 18) (v := .agg (wallsC r.f).toArray) (by first | assumption | rfl) ?_
        refine aw_slot (d := 19) (v := .int .i64 i) (by first | assumption | rfl) ?_
        refine aw_seq ?_
        refine aw_region ?_
        refine al_opd rfl rfl rfl (ao_lss rfl rfl) ?_
        refine al_nilT ?_
        refine aw_seq ?_
        refine aw_cond rfl (fun h3_ => ?_) (fun h3_ => ?_)
        · try simp only [nrm] at h3_
          refine aw_skipT ?_
          refine aw_seq ?_
          refine aw_block ?_
          refine aw_seq ?_
          refine aw_region ?_
          refine al_opd rfl rfl rfl (ao_mv (v := .int _ _) rfl) ?_
          refine al_opd rfl rfl rfl (ao_indexA Tryd.underlying26 Tryd.isAgg25 Tryd.sizeOf25 rfl rfl (by first | rfl | omega) (by exact IXp) (wallsA r.f i (by omega))) ?_
          refine al_opd rfl rfl rfl (ao_as (v := .int _ _) rfl) ?_
          refine al_opd rfl rfl rfl (ao_as (v := .int _ _) rfl) ?_
          refine al_nilT ?_
          refine aw_seq ?_
          refine aw_region ?_
          refine al_opd rfl rfl rfl (ao_mv (v := .int _ _) rfl) ?_
          refine al_opd rfl rfl rfl (ao_fieldAddr fo_28_0 rfl) ?_
          refine al_opd rfl rfl rfl (ao_load (v := .int _ _) Tryd.isAgg24 (by rfl) (by exact HLp) (by rfl) (by first | rfl | exact wallsL _ _ (by omega) | exact roomL _ _ (by omega) | exact roomLI _ _ (by omega) | (simp; (first | done | fail)))) ?_
          refine al_opd rfl rfl rfl ((ao_shr rfl rfl (by omega)).val (shr16 (r.f i) r.w (by omega) (by omega))) ?_
          refine al_opd rfl rfl rfl ((ao_neq rfl rfl).val (congrArg Value.bool (row_high (r.f i) r.w.toNat))) ?_
          refine al_opd rfl rfl rfl (ao_mv (v := .bool _) rfl) ?_
          refine al_cases (d := 28) rfl (fun h4_ => ?_) (fun h4_ => ?_)
          · try simp only [nrm] at h4_
            refine al_gno rfl rfl rfl rfl rfl ?_
            refine al_gno rfl rfl rfl rfl rfl ?_
            refine al_gno rfl rfl rfl rfl rfl ?_
            refine al_gno rfl rfl rfl rfl rfl ?_
            refine al_gno rfl rfl rfl rfl rfl ?_
            refine al_gno rfl rfl rfl rfl rfl ?_
            refine al_gnu rfl rfl rfl rfl ?_
            refine al_gnu rfl rfl rfl rfl ?_
            refine al_gno rfl rfl rfl rfl rfl ?_
            refine al_opd rfl rfl rfl (ao_pickT rfl (v := .bool _) rfl) ?_
            refine al_nilT ?_
            refine aw_condT (by rfl) ⟨_, rfl⟩ ?_
            refine aw_seq ?_
            refine aw_region ?_
            refine al_opd rfl rfl rfl (ao_as (v := .bool _) rfl) ?_
            refine al_nilT ?_
            refine aw_ret ?_
            refine blockA_r ?_
            refine thenA_r ?_
            refine thenA_r ?_
            refine blockA_r ?_
            refine thenA_r ?_
            refine ends1 rfl (rv_tmp (v := .bool _) rfl) ?_
            exact ⟨bf hb (fun ⟨q1, q2, q3, q4, q5⟩ => by exact absurd (q5 i (by omega)).1 h4_), by exact SMp⟩
          · try simp only [nrm] at h4_
            refine al_gyes rfl rfl rfl rfl rfl (ao_mv (v := .int _ _) rfl) ?_
            refine al_gyes rfl rfl rfl rfl rfl (ao_fieldAddr fo_28_1 rfl) ?_
            refine al_gyes rfl rfl rfl rfl rfl (ao_load (v := .int _ _) Tryd.isAgg24 (by rfl) (by exact HLp) (by rfl) (by first | rfl | exact wallsL _ _ (by omega) | exact roomL _ _ (by omega) | exact roomLI _ _ (by omega) | (simp; (first | done | fail)))) ?_
            first | refine al_gyes rfl rfl rfl rfl rfl ((ao_conv ⟨_, Tryd.underlying24⟩ Tryd.underlying3 rfl).val (nw_i64 BDp BDp)) ?_ | refine al_gyes rfl rfl rfl rfl rfl (ao_conv ⟨_, Tryd.underlying24⟩ Tryd.underlying3 rfl) ?_
            refine al_gyes rfl rfl rfl rfl rfl (ao_geq rfl rfl) ?_
            refine al_gyes rfl rfl rfl rfl rfl (ao_mv (v := .bool _) rfl) ?_
            refine al_cases (d := 34) rfl (fun h5_ => ?_) (fun h5_ => ?_)
            · try simp only [nrm] at h5_
              refine al_gyes rfl rfl rfl rfl rfl (ao_mv (v := .int _ _) rfl) ?_
              refine al_gyes rfl rfl rfl rfl rfl (ao_neq rfl rfl) ?_
              refine al_gyes rfl rfl rfl rfl rfl (ao_pickT rfl (v := .bool _) rfl) ?_
              refine al_opd rfl rfl rfl (ao_pickF rfl (v := .bool _) rfl) ?_
              refine al_nilT ?_
              refine aw_cond rfl (fun h6_ => ?_) (fun h6_ => ?_)
              · try simp only [nrm] at h6_
                refine aw_seq ?_
                refine aw_region ?_
                refine al_opd rfl rfl rfl (ao_as (v := .bool _) rfl) ?_
                refine al_nilT ?_
                refine aw_ret ?_
                refine blockA_r ?_
                refine thenA_r ?_
                refine thenA_r ?_
                refine blockA_r ?_
                refine thenA_r ?_
                refine ends1 rfl (rv_tmp (v := .bool _) rfl) ?_
                exact ⟨bf hb (fun ⟨q1, q2, q3, q4, q5⟩ => by have := (q5 i (by omega)).2 (by omega); omega), by exact SMp⟩
              · try simp only [nrm] at h6_
                refine aw_skipB ?_
                refine thenA_n ?_
                refine aw_region ?_
                first | refine al_opd rfl rfl rfl ((ao_add rfl rfl).val (nw_i64 BDp BDp)) ?_ | refine al_opd rfl rfl rfl (ao_add rfl rfl) ?_
                refine al_opd rfl rfl rfl (ao_mv (v := .int _ _) rfl) ?_
                refine al_nilT ?_
                refine ⟨_, ?_, _, rfl, i + 1, by omega, rfl, rfl, fun j hj => ?_, rfl, rfl, by rfl⟩
                · omega
                · rcases Nat.lt_or_ge j i with h9 | h9
                  · exact hm j h9
                  · obtain rfl : j = i := by omega
                    exact ⟨h4_, fun _ => by omega⟩
            · try simp only [nrm] at h5_
              refine al_gno rfl rfl rfl rfl rfl ?_
              refine al_gno rfl rfl rfl rfl rfl ?_
              refine al_gyes rfl rfl rfl rfl rfl (ao_pickF rfl (v := .bool _) rfl) ?_
              refine al_opd rfl rfl rfl (ao_pickF rfl (v := .bool _) rfl) ?_
              refine al_nilT ?_
              refine aw_condF (by rfl) ⟨_, rfl⟩ ?_
              refine aw_skipB ?_
              refine thenA_n ?_
              refine aw_region ?_
              first | refine al_opd rfl rfl rfl ((ao_add rfl rfl).val (nw_i64 BDp BDp)) ?_ | refine al_opd rfl rfl rfl (ao_add rfl rfl) ?_
              refine al_opd rfl rfl rfl (ao_mv (v := .int _ _) rfl) ?_
              refine al_nilT ?_
              refine ⟨_, ?_, _, rfl, i + 1, by omega, rfl, rfl, fun j hj => ?_, rfl, rfl, by rfl⟩
              · omega
              · rcases Nat.lt_or_ge j i with h9 | h9
                · exact hm j h9
                · obtain rfl : j = i := by omega
                  exact ⟨h4_, fun _ => by omega⟩
        · try simp only [nrm] at h3_
          refine aw_exit ?_
          refine thenA_x ?_
          refine thenA_x ?_
          refine blockA_hit ?_
          refine thenA_n ?_
          refine aw_seq ?_
          refine aw_region ?_
          refine al_opd rfl rfl rfl (ao_as (v := .bool _) rfl) ?_
          refine al_nilT ?_
          refine aw_ret ?_
          refine ends1 rfl (rv_tmp (v := .bool _) rfl) ?_
          exact ⟨bt hb ⟨by omega, by omega, by omega, by omega, fun y hy => hm y (by omega)⟩, by exact SMp⟩

-- spec.l01Ok
theorem l01Ok_c {r : Room} {b : Bool} {pb : Nat} {H : AHeap} (hp : H.blk pb = some (.cells (roomC r) 1)) (hw : wfRoom r) (hb : b = true ↔ okRoom r) : ACd Tryd.prog 44 [.pointer (some ⟨pb, 0, none⟩)] H (.bool b) (H) := by
  have ⟨⟨w1, w2⟩, ⟨w3, w4⟩, w5⟩ := hw
  refine ac_gc0 (fun β => VR.plainT β (by first | rfl | simp [plainT, plainV, plain1])) (ac_body Tryd.func44 rfl Tryd.ntmps44 rfl ?_)
  refine aw_seq ?_
  refine aw_region ?_
  refine al_opd rfl rfl rfl (ao_as (v := .bool _) rfl) ?_
  refine al_nilT ?_
  refine aw_seq ?_
  refine aw_seq ?_
  refine aw_region ?_
  refine al_opd rfl rfl rfl (ao_mv (v := .pointer _) rfl) ?_
  refine al_opd rfl rfl rfl (ao_nilCheck rfl) ?_
  refine al_opd rfl rfl rfl (ao_fieldAddr fo_28_0 rfl) ?_
  refine al_opd rfl rfl rfl (ao_load (v := .int _ _) Tryd.isAgg24 (by rfl) (by exact HLp) (by rfl) (by first | rfl | exact wallsL _ _ (by omega) | exact roomL _ _ (by omega) | exact roomLI _ _ (by omega) | (simp; (first | done | fail)))) ?_
  first | refine al_opd rfl rfl rfl ((ao_conv ⟨_, Tryd.underlying24⟩ Tryd.underlying2 rfl).val (nw_i64 BDp BDp)) ?_ | refine al_opd rfl rfl rfl (ao_conv ⟨_, Tryd.underlying24⟩ Tryd.underlying2 rfl) ?_
  refine al_opd rfl rfl rfl (ao_calld (l00In_c) Tryd.call66 rfl rfl) ?_
  refine al_opd rfl rfl rfl (ao_not rfl) ?_
  refine al_opd rfl rfl rfl (ao_mv (v := .bool _) rfl) ?_
  refine al_cases (d := 11) rfl (fun h1_ => ?_) (fun h1_ => ?_)
  · try simp only [nrm] at h1_
    refine al_gno rfl rfl rfl rfl rfl ?_
    refine al_gno rfl rfl rfl rfl rfl ?_
    refine al_gno rfl rfl rfl rfl rfl ?_
    refine al_gno rfl rfl rfl rfl rfl ?_
    refine al_gno rfl rfl rfl rfl rfl ?_
    refine al_gno rfl rfl rfl rfl rfl ?_
    refine al_gno rfl rfl rfl rfl rfl ?_
    refine al_opd rfl rfl rfl (ao_pickT rfl (v := .bool _) rfl) ?_
    refine al_nilT ?_
    refine aw_condT (by rfl) ⟨_, rfl⟩ ?_
    refine aw_seq ?_
    refine aw_region ?_
    refine al_opd rfl rfl rfl (ao_as (v := .bool _) rfl) ?_
    refine al_nilT ?_
    refine aw_ret ?_
    refine thenA_r ?_
    refine ends1 rfl (rv_tmp (v := .bool _) rfl) ?_
    exact ⟨bf hb (fun ⟨q1, q2, q3, q4, q5⟩ => by omega), by exact SMp⟩
  · try simp only [nrm] at h1_
    refine al_gyes rfl rfl rfl rfl rfl (ao_mv (v := .pointer _) rfl) ?_
    refine al_gyes rfl rfl rfl rfl rfl (ao_nilCheck rfl) ?_
    refine al_gyes rfl rfl rfl rfl rfl (ao_fieldAddr fo_28_1 rfl) ?_
    refine al_gyes rfl rfl rfl rfl rfl (ao_load (v := .int _ _) Tryd.isAgg24 (by rfl) (by exact HLp) (by rfl) (by first | rfl | exact wallsL _ _ (by omega) | exact roomL _ _ (by omega) | exact roomLI _ _ (by omega) | (simp; (first | done | fail)))) ?_
    first | refine al_gyes rfl rfl rfl rfl rfl ((ao_conv ⟨_, Tryd.underlying24⟩ Tryd.underlying2 rfl).val (nw_i64 BDp BDp)) ?_ | refine al_gyes rfl rfl rfl rfl rfl (ao_conv ⟨_, Tryd.underlying24⟩ Tryd.underlying2 rfl) ?_
    refine al_gyes rfl rfl rfl rfl rfl (ao_calld (l00In_c) Tryd.call66 rfl rfl) ?_
    refine al_gyes rfl rfl rfl rfl rfl (ao_not rfl) ?_
    refine al_opd rfl rfl rfl (ao_pickF rfl (v := .bool _) rfl) ?_
    refine al_nilT ?_
    refine aw_cond rfl (fun h2_ => ?_) (fun h2_ => ?_)
    · try simp only [nrm] at h2_
      refine aw_seq ?_
      refine aw_region ?_
      refine al_opd rfl rfl rfl (ao_as (v := .bool _) rfl) ?_
      refine al_nilT ?_
      refine aw_ret ?_
      refine thenA_r ?_
      refine ends1 rfl (rv_tmp (v := .bool _) rfl) ?_
      exact ⟨bf hb (fun ⟨q1, q2, q3, q4, q5⟩ => by omega), by exact SMp⟩
    · try simp only [nrm] at h2_
      refine aw_skipT ?_
      refine aw_seq ?_
      refine aw_seq ?_
      refine aw_region ?_
      refine al_opd rfl rfl rfl (ao_as (v := .int _ _) rfl) ?_
      refine al_nilT ?_
      refine aw_block ?_
      refine aw_loop (fun (gk : Nat) (fr : AFr) (G : AHeap) => ∃ get : Nat → Value, fr = ⟨55, get⟩ ∧ (∃ i : Nat, i ≤ 10 ∧ gk = 10 - i ∧ H = G ∧ (∀ j, j < i → rowOk r j) ∧ get 0 = .pointer (some ⟨pb, 0, none⟩) ∧ get 3 = .int .i64 i)) (10) ⟨_, rfl, ?_⟩ ?_
      · exact ⟨0, by omega, rfl, rfl, fun j h => by omega, rfl, rfl⟩
      · rintro gk fr G ⟨get, rfl, i, hi, rfl, rfl, hm, g0, g3⟩
        refine aw_slot (d := 0) (v := .pointer (some ⟨pb, 0, none⟩)) (by first | assumption | rfl) ?_
        refine aw_slot (d := 3) (v := .int .i64 i) (by first | assumption | rfl) ?_
        refine aw_seq ?_
        refine aw_seq ?_
        refine aw_region ?_
        refine al_opd rfl rfl rfl (ao_mv (v := .int _ _) rfl) ?_
        refine al_opd rfl rfl rfl (ao_lss rfl rfl) ?_
        refine al_nilT ?_
        refine aw_cond rfl (fun h3_ => ?_) (fun h3_ => ?_)
        · try simp only [nrm] at h3_
          refine aw_skipT ?_
          refine aw_seq ?_
          refine aw_block ?_
          refine aw_seq ?_
          refine aw_draw (m := 31) mo (by kernel_rfl) rfl (fun _ _ _ h => h) ?_
          refine dw_opd rfl rfl rfl (ao_mv (v := .pointer _) rfl) ?_
          refine dw_opd rfl rfl rfl (ao_mv (v := .int _ _) rfl) ?_
          refine dw_opd rfl rfl rfl (ao_nilCheck rfl) ?_
          refine dw_opd rfl rfl rfl (ao_fieldAddr fo_28_2 rfl) ?_
          refine dw_opd rfl rfl rfl (ao_indexAddrA Tryd.underlying26 Tryd.sizeOf25 rfl rfl (by exact IXp) (by exact IXp)) ?_
          refine dw_opd rfl rfl rfl (ao_load (v := .int _ _) Tryd.isAgg25 (by rfl) (by exact HLp) (by rfl) (by first | rfl | exact wallsL _ _ (by omega) | exact roomL _ _ (by omega) | exact roomLI _ _ (by omega) | (simp; (first | done | fail)))) ?_
          refine dw_opd rfl rfl rfl (ao_mv (v := .pointer _) rfl) ?_
          refine dw_opd rfl rfl rfl (ao_nilCheck rfl) ?_
          refine dw_opd rfl rfl rfl (ao_fieldAddr fo_28_0 rfl) ?_
          refine dw_opd rfl rfl rfl (ao_load (v := .int _ _) Tryd.isAgg24 (by rfl) (by exact HLp) (by rfl) (by first | rfl | exact wallsL _ _ (by omega) | exact roomL _ _ (by omega) | exact roomLI _ _ (by omega) | (simp; (first | done | fail)))) ?_
          first | refine dw_opd rfl rfl rfl ((ao_conv ⟨_, Tryd.underlying24⟩ Tryd.underlying87 rfl).val (nw_u64 BDp BDp)) ?_ | refine dw_opd rfl rfl rfl (ao_conv ⟨_, Tryd.underlying24⟩ Tryd.underlying87 rfl) ?_
          refine dw_opd rfl rfl rfl ((ao_shr rfl rfl (by omega)).val (shr16 (r.f i) r.w (by omega) (by omega))) ?_
          refine dw_opd rfl rfl rfl ((ao_neq rfl rfl).val (congrArg Value.bool (row_high (r.f i) r.w.toNat))) ?_
          refine dw_opd rfl rfl rfl (ao_mv (v := .bool _) rfl) ?_
          refine dw_cases (d := 37) rfl (fun h4_ => ?_) (fun h4_ => ?_)
          · try simp only [nrm] at h4_
            refine dw_gno rfl rfl rfl rfl rfl rfl ?_
            refine dw_gno rfl rfl rfl rfl rfl rfl ?_
            refine dw_gno rfl rfl rfl rfl rfl rfl ?_
            refine dw_gno rfl rfl rfl rfl rfl rfl ?_
            refine dw_gno rfl rfl rfl rfl rfl rfl ?_
            refine dw_gno rfl rfl rfl rfl rfl rfl ?_
            refine dw_gno rfl rfl rfl rfl rfl rfl ?_
            refine dw_gno rfl rfl rfl rfl rfl rfl ?_
            refine dw_gnu rfl rfl rfl rfl rfl ?_
            refine dw_gnu rfl rfl rfl rfl rfl ?_
            refine dw_gnu rfl rfl rfl rfl rfl ?_
            refine dw_gnu rfl rfl rfl rfl rfl ?_
            refine dw_gnu rfl rfl rfl rfl rfl ?_
            refine dw_gnu rfl rfl rfl rfl rfl ?_
            refine dw_gnu rfl rfl rfl rfl rfl ?_
            refine dw_gno rfl rfl rfl rfl rfl rfl ?_
            refine dw_opd rfl rfl rfl (ao_pickT rfl (v := .bool _) rfl) ?_
            refine dw_end ?_
            refine al_nilT ?_
            refine aw_condT (by rfl) ⟨_, rfl⟩ ?_
            refine aw_seq ?_
            refine aw_region ?_
            refine al_opd rfl rfl rfl (ao_as (v := .bool _) rfl) ?_
            refine al_nilT ?_
            refine aw_ret ?_
            refine blockA_r ?_
            refine thenA_r ?_
            refine thenA_r ?_
            refine blockA_r ?_
            refine thenA_r ?_
            refine ends1 rfl (rv_tmp (v := .bool _) rfl) ?_
            exact ⟨bf hb (fun ⟨q1, q2, q3, q4, q5⟩ => by exact absurd (q5 i (by omega)).1 h4_), by exact SMp⟩
          · try simp only [nrm] at h4_
            refine dw_gyes rfl rfl rfl rfl rfl (ao_mv (v := .int _ _) rfl) ?_
            refine dw_gyes rfl rfl rfl rfl rfl (ao_mv (v := .pointer _) rfl) ?_
            refine dw_gyes rfl rfl rfl rfl rfl (ao_nilCheck rfl) ?_
            refine dw_gyes rfl rfl rfl rfl rfl (ao_fieldAddr fo_28_1 rfl) ?_
            refine dw_gyes rfl rfl rfl rfl rfl (ao_load (v := .int _ _) Tryd.isAgg24 (by rfl) (by exact HLp) (by rfl) (by first | rfl | exact wallsL _ _ (by omega) | exact roomL _ _ (by omega) | exact roomLI _ _ (by omega) | (simp; (first | done | fail)))) ?_
            first | refine dw_gyes rfl rfl rfl rfl rfl ((ao_conv ⟨_, Tryd.underlying24⟩ Tryd.underlying3 rfl).val (nw_i64 BDp BDp)) ?_ | refine dw_gyes rfl rfl rfl rfl rfl (ao_conv ⟨_, Tryd.underlying24⟩ Tryd.underlying3 rfl) ?_
            refine dw_gyes rfl rfl rfl rfl rfl (ao_geq rfl rfl) ?_
            refine dw_gyes rfl rfl rfl rfl rfl (ao_mv (v := .bool _) rfl) ?_
            refine dw_cases (d := 45) rfl (fun h5_ => ?_) (fun h5_ => ?_)
            · try simp only [nrm] at h5_
              refine dw_gyes rfl rfl rfl rfl rfl (ao_mv (v := .pointer _) rfl) ?_
              refine dw_gyes rfl rfl rfl rfl rfl (ao_mv (v := .int _ _) rfl) ?_
              refine dw_gyes rfl rfl rfl rfl rfl (ao_nilCheck rfl) ?_
              refine dw_gyes rfl rfl rfl rfl rfl (ao_fieldAddr fo_28_2 rfl) ?_
              refine dw_gyes rfl rfl rfl rfl rfl (ao_indexAddrA Tryd.underlying26 Tryd.sizeOf25 rfl rfl (by exact IXp) (by exact IXp)) ?_
              refine dw_gyes rfl rfl rfl rfl rfl (ao_load (v := .int _ _) Tryd.isAgg25 (by rfl) (by exact HLp) (by rfl) (by first | rfl | exact wallsL _ _ (by omega) | exact roomL _ _ (by omega) | exact roomLI _ _ (by omega) | (simp; (first | done | fail)))) ?_
              refine dw_gyes rfl rfl rfl rfl rfl (ao_neq rfl rfl) ?_
              refine dw_gyes rfl rfl rfl rfl rfl (ao_pickT rfl (v := .bool _) rfl) ?_
              refine dw_opd rfl rfl rfl (ao_pickF rfl (v := .bool _) rfl) ?_
              refine dw_end ?_
              refine al_nilT ?_
              refine aw_cond rfl (fun h6_ => ?_) (fun h6_ => ?_)
              · try simp only [nrm] at h6_
                refine aw_seq ?_
                refine aw_region ?_
                refine al_opd rfl rfl rfl (ao_as (v := .bool _) rfl) ?_
                refine al_nilT ?_
                refine aw_ret ?_
                refine blockA_r ?_
                refine thenA_r ?_
                refine thenA_r ?_
                refine blockA_r ?_
                refine thenA_r ?_
                refine ends1 rfl (rv_tmp (v := .bool _) rfl) ?_
                exact ⟨bf hb (fun ⟨q1, q2, q3, q4, q5⟩ => by have := (q5 i (by omega)).2 (by omega); omega), by exact SMp⟩
              · try simp only [nrm] at h6_
                refine aw_skipB ?_
                refine thenA_n ?_
                refine aw_region ?_
                refine al_opd rfl rfl rfl (ao_mv (v := .int _ _) rfl) ?_
                first | refine al_opd rfl rfl rfl ((ao_add rfl rfl).val (nw_i64 BDp BDp)) ?_ | refine al_opd rfl rfl rfl (ao_add rfl rfl) ?_
                refine al_opd rfl rfl rfl (ao_as (v := .int _ _) rfl) ?_
                refine al_nilT ?_
                refine ⟨_, ?_, _, rfl, i + 1, by omega, rfl, rfl, fun j hj => ?_, rfl, by rfl⟩
                · omega
                · rcases Nat.lt_or_ge j i with h9 | h9
                  · exact hm j h9
                  · obtain rfl : j = i := by omega
                    exact ⟨h4_, fun _ => by omega⟩
            · try simp only [nrm] at h5_
              refine dw_gno rfl rfl rfl rfl rfl rfl ?_
              refine dw_gno rfl rfl rfl rfl rfl rfl ?_
              refine dw_gno rfl rfl rfl rfl rfl rfl ?_
              refine dw_gno rfl rfl rfl rfl rfl rfl ?_
              refine dw_gno rfl rfl rfl rfl rfl rfl ?_
              refine dw_gno rfl rfl rfl rfl rfl rfl ?_
              refine dw_gno rfl rfl rfl rfl rfl rfl ?_
              refine dw_gyes rfl rfl rfl rfl rfl (ao_pickF rfl (v := .bool _) rfl) ?_
              refine dw_opd rfl rfl rfl (ao_pickF rfl (v := .bool _) rfl) ?_
              refine dw_end ?_
              refine al_nilT ?_
              refine aw_condF (by rfl) ⟨_, rfl⟩ ?_
              refine aw_skipB ?_
              refine thenA_n ?_
              refine aw_region ?_
              refine al_opd rfl rfl rfl (ao_mv (v := .int _ _) rfl) ?_
              first | refine al_opd rfl rfl rfl ((ao_add rfl rfl).val (nw_i64 BDp BDp)) ?_ | refine al_opd rfl rfl rfl (ao_add rfl rfl) ?_
              refine al_opd rfl rfl rfl (ao_as (v := .int _ _) rfl) ?_
              refine al_nilT ?_
              refine ⟨_, ?_, _, rfl, i + 1, by omega, rfl, rfl, fun j hj => ?_, rfl, by rfl⟩
              · omega
              · rcases Nat.lt_or_ge j i with h9 | h9
                · exact hm j h9
                · obtain rfl : j = i := by omega
                  exact ⟨h4_, fun _ => by omega⟩
        · try simp only [nrm] at h3_
          refine aw_exit ?_
          refine thenA_x ?_
          refine thenA_x ?_
          refine blockA_hit ?_
          refine thenA_n ?_
          refine aw_seq ?_
          refine aw_region ?_
          refine al_opd rfl rfl rfl (ao_as (v := .bool _) rfl) ?_
          refine al_nilT ?_
          refine aw_ret ?_
          refine ends1 rfl (rv_tmp (v := .bool _) rfl) ?_
          exact ⟨bt hb ⟨by omega, by omega, by omega, by omega, fun y hy => hm y (by omega)⟩, by exact SMp⟩

-- (impl.Room).isCell
theorem isCell_c {r : Room} {s : Spot} {b : Bool} {H : AHeap} (hw : wfRoom r) (hs : wfSpot s) (hb : b = true ↔ isCell r s) : ACd Tryd.prog 65 [.agg (roomC r).toArray, .agg #[.int .i8 s.x, .int .i8 s.y]] H (.bool b) (H) := by
  have ⟨⟨w1, w2⟩, ⟨w3, w4⟩, w5⟩ := hw
  have ⟨⟨s1, s2⟩, ⟨s3, s4⟩⟩ := hs
  refine ac_gc0 (fun β => VR.plainT β (by first | rfl | simp [plainT, plainV, plain1])) (ac_body Tryd.func65 rfl Tryd.ntmps65 rfl ?_)
  refine aw_seq ?_
  refine aw_region ?_
  refine al_opd rfl rfl rfl (ao_boxa (by rfl)) ?_
  refine al_opd rfl rfl rfl (ao_boxa (by rfl)) ?_
  refine al_opd rfl rfl rfl (ao_as (v := .bool _) rfl) ?_
  refine al_nilT ?_
  refine aw_seq ?_
  refine aw_region ?_
  refine al_opd rfl rfl rfl (ao_fieldAddr fo_48_0 rfl) ?_
  refine al_opd rfl rfl rfl (ao_load (v := .int _ _) Tryd.isAgg24 (by rfl) (by exact HLp) (by rfl) (by exact RFp)) ?_
  first | refine al_opd rfl rfl rfl ((ao_conv ⟨_, Tryd.underlying24⟩ Tryd.underlying2 rfl).val (nw_i64 BDp BDp)) ?_ | refine al_opd rfl rfl rfl (ao_conv ⟨_, Tryd.underlying24⟩ Tryd.underlying2 rfl) ?_
  refine al_opd rfl rfl rfl (ao_fieldAddr fo_28_0 rfl) ?_
  refine al_opd rfl rfl rfl (ao_load (v := .int _ _) Tryd.isAgg24 (by rfl) (by exact HLp) (by rfl) (by exact RFp)) ?_
  first | refine al_opd rfl rfl rfl ((ao_conv ⟨_, Tryd.underlying24⟩ Tryd.underlying2 rfl).val (nw_i64 BDp BDp)) ?_ | refine al_opd rfl rfl rfl (ao_conv ⟨_, Tryd.underlying24⟩ Tryd.underlying2 rfl) ?_
  refine al_opd rfl rfl rfl ((ao_min rfl rfl).val (minV _)) ?_
  first | refine al_opd rfl rfl rfl ((ao_sub rfl rfl).val (nw_i64 BDp BDp)) ?_ | refine al_opd rfl rfl rfl (ao_sub rfl rfl) ?_
  refine al_opd rfl rfl rfl (ao_calld (within_c) Tryd.call53 rfl rfl) ?_
  refine al_opd rfl rfl rfl (ao_mv (v := .bool _) rfl) ?_
  refine al_cases (d := 14) rfl (fun h1_ => ?_) (fun h1_ => ?_)
  · try simp only [nrm] at h1_
    refine al_gyes rfl rfl rfl rfl rfl (ao_fieldAddr fo_48_1 rfl) ?_
    refine al_gyes rfl rfl rfl rfl rfl (ao_load (v := .int _ _) Tryd.isAgg24 (by rfl) (by exact HLp) (by rfl) (by exact RFp)) ?_
    first | refine al_gyes rfl rfl rfl rfl rfl ((ao_conv ⟨_, Tryd.underlying24⟩ Tryd.underlying2 rfl).val (nw_i64 BDp BDp)) ?_ | refine al_gyes rfl rfl rfl rfl rfl (ao_conv ⟨_, Tryd.underlying24⟩ Tryd.underlying2 rfl) ?_
    refine al_gyes rfl rfl rfl rfl rfl (ao_fieldAddr fo_28_1 rfl) ?_
    refine al_gyes rfl rfl rfl rfl rfl (ao_load (v := .int _ _) Tryd.isAgg24 (by rfl) (by exact HLp) (by rfl) (by exact RFp)) ?_
    first | refine al_gyes rfl rfl rfl rfl rfl ((ao_conv ⟨_, Tryd.underlying24⟩ Tryd.underlying2 rfl).val (nw_i64 BDp BDp)) ?_ | refine al_gyes rfl rfl rfl rfl rfl (ao_conv ⟨_, Tryd.underlying24⟩ Tryd.underlying2 rfl) ?_
    refine al_gyes rfl rfl rfl rfl rfl ((ao_min rfl rfl).val (minV _)) ?_
    first | refine al_gyes rfl rfl rfl rfl rfl ((ao_sub rfl rfl).val (nw_i64 BDp BDp)) ?_ | refine al_gyes rfl rfl rfl rfl rfl (ao_sub rfl rfl) ?_
    refine al_gyes rfl rfl rfl rfl rfl (ao_calld (within_c) Tryd.call53 rfl rfl) ?_
    refine al_opd rfl rfl rfl (ao_pickT rfl (v := .bool _) rfl) ?_
    refine al_opd rfl rfl rfl (ao_as (v := .bool _) rfl) ?_
    refine al_nilT ?_
    refine aw_ret ?_
    refine ends1 rfl (rv_tmp (v := .bool _) rfl) ?_
    exact ⟨beqv hb (by simp only [Bool.and_eq_true, decide_eq_true_eq]; unfold isCell; omega), by exact SMp⟩
  · try simp only [nrm] at h1_
    refine al_gno rfl rfl rfl rfl rfl ?_
    refine al_gno rfl rfl rfl rfl rfl ?_
    refine al_gno rfl rfl rfl rfl rfl ?_
    refine al_gno rfl rfl rfl rfl rfl ?_
    refine al_gno rfl rfl rfl rfl rfl ?_
    refine al_gno rfl rfl rfl rfl rfl ?_
    refine al_gno rfl rfl rfl rfl rfl ?_
    refine al_gno rfl rfl rfl rfl rfl ?_
    refine al_gno rfl rfl rfl rfl rfl ?_
    refine al_opd rfl rfl rfl (ao_pickF rfl (v := .bool _) rfl) ?_
    refine al_opd rfl rfl rfl (ao_as (v := .bool _) rfl) ?_
    refine al_nilT ?_
    refine aw_ret ?_
    refine ends1 rfl (rv_tmp (v := .bool _) rfl) ?_
    exact ⟨bf hb (by unfold isCell; omega), by exact SMp⟩

-- spec.l01Is
theorem l01Is_c {r : Room} {s : Spot} {b : Bool} {pb : Nat} {H : AHeap} (hp : H.blk pb = some (.cells (roomC r) 1)) (hr : okRoom r) (hw : wfRoom r) (hs : wfSpot s) (hb : b = true ↔ isCell r s) : ACd Tryd.prog 67 [.pointer (some ⟨pb, 0, none⟩), .agg #[.int .i8 s.x, .int .i8 s.y]] H (.bool b) (H) := by
  have ⟨r1, r2, r3, r4, r5⟩ := hr
  have ⟨⟨w1, w2⟩, ⟨w3, w4⟩, w5⟩ := hw
  have ⟨⟨s1, s2⟩, ⟨s3, s4⟩⟩ := hs
  refine ac_gc0 (fun β => VR.plainT β (by first | rfl | simp [plainT, plainV, plain1])) (ac_body Tryd.func67 rfl Tryd.ntmps67 rfl ?_)
  refine aw_seq ?_
  refine aw_region ?_
  refine al_opd rfl rfl rfl (ao_boxa (by rfl)) ?_
  refine al_opd rfl rfl rfl (ao_as (v := .bool _) rfl) ?_
  refine al_nilT ?_
  refine aw_seq ?_
  refine aw_draw (m := 23) mo (by kernel_rfl) rfl (fun _ _ _ h => h) ?_
  refine dw_opd rfl rfl rfl (ao_fieldAddr fo_48_0 rfl) ?_
  refine dw_opd rfl rfl rfl (ao_load (v := .int _ _) Tryd.isAgg24 (by rfl) (by exact HLp) (by rfl) (by exact RFp)) ?_
  first | refine dw_opd rfl rfl rfl ((ao_conv ⟨_, Tryd.underlying24⟩ Tryd.underlying2 rfl).val (nw_i64 BDp BDp)) ?_ | refine dw_opd rfl rfl rfl (ao_conv ⟨_, Tryd.underlying24⟩ Tryd.underlying2 rfl) ?_
  refine dw_opd rfl rfl rfl (ao_mv (v := .pointer _) rfl) ?_
  refine dw_opd rfl rfl rfl (ao_nilCheck rfl) ?_
  refine dw_opd rfl rfl rfl (ao_fieldAddr fo_28_0 rfl) ?_
  refine dw_opd rfl rfl rfl (ao_load (v := .int _ _) Tryd.isAgg24 (by rfl) (by exact HLp) (by rfl) (by exact RFp)) ?_
  first | refine dw_opd rfl rfl rfl ((ao_conv ⟨_, Tryd.underlying24⟩ Tryd.underlying2 rfl).val (nw_i64 BDp BDp)) ?_ | refine dw_opd rfl rfl rfl (ao_conv ⟨_, Tryd.underlying24⟩ Tryd.underlying2 rfl) ?_
  first | refine dw_opd rfl rfl rfl ((ao_sub rfl rfl).val (nw_i64 BDp BDp)) ?_ | refine dw_opd rfl rfl rfl (ao_sub rfl rfl) ?_
  refine dw_opd rfl rfl rfl (ao_calld (l00In_c) Tryd.call66 rfl rfl) ?_
  refine dw_opd rfl rfl rfl (ao_mv (v := .bool _) rfl) ?_
  refine dw_cases (d := 15) rfl (fun h1_ => ?_) (fun h1_ => ?_)
  · try simp only [nrm] at h1_
    refine dw_gyes rfl rfl rfl rfl rfl (ao_fieldAddr fo_48_1 rfl) ?_
    refine dw_gyes rfl rfl rfl rfl rfl (ao_load (v := .int _ _) Tryd.isAgg24 (by rfl) (by exact HLp) (by rfl) (by exact RFp)) ?_
    first | refine dw_gyes rfl rfl rfl rfl rfl ((ao_conv ⟨_, Tryd.underlying24⟩ Tryd.underlying2 rfl).val (nw_i64 BDp BDp)) ?_ | refine dw_gyes rfl rfl rfl rfl rfl (ao_conv ⟨_, Tryd.underlying24⟩ Tryd.underlying2 rfl) ?_
    refine dw_gyes rfl rfl rfl rfl rfl (ao_mv (v := .pointer _) rfl) ?_
    refine dw_gyes rfl rfl rfl rfl rfl (ao_nilCheck rfl) ?_
    refine dw_gyes rfl rfl rfl rfl rfl (ao_fieldAddr fo_28_1 rfl) ?_
    refine dw_gyes rfl rfl rfl rfl rfl (ao_load (v := .int _ _) Tryd.isAgg24 (by rfl) (by exact HLp) (by rfl) (by exact RFp)) ?_
    first | refine dw_gyes rfl rfl rfl rfl rfl ((ao_conv ⟨_, Tryd.underlying24⟩ Tryd.underlying2 rfl).val (nw_i64 BDp BDp)) ?_ | refine dw_gyes rfl rfl rfl rfl rfl (ao_conv ⟨_, Tryd.underlying24⟩ Tryd.underlying2 rfl) ?_
    first | refine dw_gyes rfl rfl rfl rfl rfl ((ao_sub rfl rfl).val (nw_i64 BDp BDp)) ?_ | refine dw_gyes rfl rfl rfl rfl rfl (ao_sub rfl rfl) ?_
    refine dw_gyes rfl rfl rfl rfl rfl (ao_calld (l00In_c) Tryd.call66 rfl rfl) ?_
    refine dw_opd rfl rfl rfl (ao_pickT rfl (v := .bool _) rfl) ?_
    refine dw_opd rfl rfl rfl (ao_as (v := .bool _) rfl) ?_
    refine dw_end ?_
    refine al_nilT ?_
    refine aw_ret ?_
    refine ends1 rfl (rv_tmp (v := .bool _) rfl) ?_
    exact ⟨beqv hb (by simp only [Bool.and_eq_true, decide_eq_true_eq]; unfold isCell; omega), by exact SMp⟩
  · try simp only [nrm] at h1_
    refine dw_gno rfl rfl rfl rfl rfl rfl ?_
    refine dw_gno rfl rfl rfl rfl rfl rfl ?_
    refine dw_gno rfl rfl rfl rfl rfl rfl ?_
    refine dw_gno rfl rfl rfl rfl rfl rfl ?_
    refine dw_gno rfl rfl rfl rfl rfl rfl ?_
    refine dw_gno rfl rfl rfl rfl rfl rfl ?_
    refine dw_gno rfl rfl rfl rfl rfl rfl ?_
    refine dw_gno rfl rfl rfl rfl rfl rfl ?_
    refine dw_gno rfl rfl rfl rfl rfl rfl ?_
    refine dw_gno rfl rfl rfl rfl rfl rfl ?_
    refine dw_opd rfl rfl rfl (ao_pickF rfl (v := .bool _) rfl) ?_
    refine dw_opd rfl rfl rfl (ao_as (v := .bool _) rfl) ?_
    refine dw_end ?_
    refine al_nilT ?_
    refine aw_ret ?_
    refine ends1 rfl (rv_tmp (v := .bool _) rfl) ?_
    exact ⟨bf hb (by unfold isCell; omega), by exact SMp⟩

-- (impl.Room).isFree
theorem isFree_c {r : Room} {s : Spot} {b : Bool} {H : AHeap} (hw : wfRoom r) (hs : wfSpot s) (hb : b = true ↔ isFree r s) : ACd Tryd.prog 41 [.agg (roomC r).toArray, .agg #[.int .i8 s.x, .int .i8 s.y]] H (.bool b) (H) := by
  have ⟨⟨w1, w2⟩, ⟨w3, w4⟩, w5⟩ := hw
  have ⟨⟨s1, s2⟩, ⟨s3, s4⟩⟩ := hs
  obtain ⟨c, hc⟩ := exists_bool (isCell r s)
  refine ac_gc0 (fun β => VR.plainT β (by first | rfl | simp [plainT, plainV, plain1])) (ac_body Tryd.func41 rfl Tryd.ntmps41 rfl ?_)
  refine aw_seq ?_
  refine aw_region ?_
  refine al_opd rfl rfl rfl (ao_boxa (by rfl)) ?_
  refine al_opd rfl rfl rfl (ao_boxa (by rfl)) ?_
  refine al_opd rfl rfl rfl (ao_as (v := .bool _) rfl) ?_
  refine al_nilT ?_
  refine aw_seq ?_
  refine aw_draw (m := 16) mo (by kernel_rfl) rfl (fun _ _ _ h => h) ?_
  refine dw_opd rfl rfl rfl (ao_loada Tryd.isAgg28 Tryd.sizeOf28 rfl (by exact HLp) (by rfl) (by first | rfl | exact wallsL _ _ (by omega) | exact roomL _ _ (by omega) | exact roomLI _ _ (by omega) | (simp; (first | done | fail)))) ?_
  refine dw_opd rfl rfl rfl (ao_loada Tryd.isAgg48 Tryd.sizeOf48 rfl (by exact HLp) (by rfl) (by first | rfl | exact wallsL _ _ (by omega) | exact roomL _ _ (by omega) | exact roomLI _ _ (by omega) | (simp; (first | done | fail)))) ?_
  refine dw_opd rfl rfl rfl (ao_calld (isCell_c (r := r) (s := s) (b := c) hw hs hc) Tryd.call65 rfl rfl) ?_
  refine dw_opd rfl rfl rfl (ao_mv (v := .bool _) rfl) ?_
  refine dw_cases (d := 8) rfl (fun h1_ => ?_) (fun h1_ => ?_)
  · try simp only [nrm] at h1_
    have hcl := hc.mp h1_
    have ⟨c1, c2, c3, c4, c5, c6⟩ := hcl
    refine dw_gyes rfl rfl rfl rfl rfl (ao_fieldAddr fo_48_1 rfl) ?_
    refine dw_gyes rfl rfl rfl rfl rfl (ao_load (v := .int _ _) Tryd.isAgg24 (by rfl) (by exact HLp) (by rfl) (by first | rfl | exact wallsL _ _ (by omega) | exact roomL _ _ (by omega) | exact roomLI _ _ (by omega) | (simp; (first | done | fail)))) ?_
    refine dw_gyes rfl rfl rfl rfl rfl (ao_fieldAddr fo_28_2 rfl) ?_
    refine dw_gyes rfl rfl rfl rfl rfl (ao_indexAddrA Tryd.underlying26 Tryd.sizeOf25 rfl rfl (by exact IXp) (by exact IXp)) ?_
    refine dw_gyes rfl rfl rfl rfl rfl (ao_load (v := .int _ _) Tryd.isAgg25 (by rfl) (by exact HLp) (by rfl) (by first | rfl | exact wallsL _ _ (by omega) | exact roomL _ _ (by omega) | exact roomLI _ _ (by omega) | (simp; (first | done | fail)))) ?_
    refine dw_gyes rfl rfl rfl rfl rfl (ao_fieldAddr fo_48_0 rfl) ?_
    refine dw_gyes rfl rfl rfl rfl rfl (ao_load (v := .int _ _) Tryd.isAgg24 (by rfl) (by exact HLp) (by rfl) (by first | rfl | exact wallsL _ _ (by omega) | exact roomL _ _ (by omega) | exact roomLI _ _ (by omega) | (simp; (first | done | fail)))) ?_
    refine dw_gyes rfl rfl rfl rfl rfl ((ao_shr rfl rfl (by omega)).val (shr16 (r.f s.y.toNat) s.x (by omega) (by omega))) ?_
    refine dw_gyes rfl rfl rfl rfl rfl ((ao_and rfl rfl).val (and16 _ (Nat.lt_of_le_of_lt (Nat.div_le_self _ _) (w5 _)))) ?_
    refine dw_gyes rfl rfl rfl rfl rfl ((ao_eql rfl rfl).val (congrArg Value.bool (bit_eq (r.f s.y.toNat) s.x.toNat))) ?_
    refine dw_opd rfl rfl rfl (ao_pickT rfl (v := .bool _) rfl) ?_
    refine dw_opd rfl rfl rfl (ao_as (v := .bool _) rfl) ?_
    refine dw_end ?_
    refine al_nilT ?_
    refine aw_ret ?_
    refine ends1 rfl (rv_tmp (v := .bool _) rfl) ?_
    exact ⟨beqv hb ⟨fun e => ⟨hcl, by unfold bitAt; simpa using e⟩, fun e => by have := e.2; unfold bitAt at this; rw [this]; rfl⟩, by exact SMp⟩
  · try simp only [nrm] at h1_
    refine dw_gno rfl rfl rfl rfl rfl rfl ?_
    refine dw_gno rfl rfl rfl rfl rfl rfl ?_
    refine dw_gno rfl rfl rfl rfl rfl rfl ?_
    refine dw_gno rfl rfl rfl rfl rfl rfl ?_
    refine dw_gno rfl rfl rfl rfl rfl rfl ?_
    refine dw_gno rfl rfl rfl rfl rfl rfl ?_
    refine dw_gno rfl rfl rfl rfl rfl rfl ?_
    refine dw_gno rfl rfl rfl rfl rfl rfl ?_
    refine dw_gno rfl rfl rfl rfl rfl rfl ?_
    refine dw_gno rfl rfl rfl rfl rfl rfl ?_
    refine dw_opd rfl rfl rfl (ao_pickF rfl (v := .bool _) rfl) ?_
    refine dw_opd rfl rfl rfl (ao_as (v := .bool _) rfl) ?_
    refine dw_end ?_
    refine al_nilT ?_
    refine aw_ret ?_
    refine ends1 rfl (rv_tmp (v := .bool _) rfl) ?_
    exact ⟨bf hb (fun q => by rw [hc.mpr q.1] at h1_; cases h1_), by exact SMp⟩

-- spec.l01Free
theorem l01Free_c {r : Room} {s : Spot} {b : Bool} {pb : Nat} {H : AHeap} (hp : H.blk pb = some (.cells (roomC r) 1)) (hr : okRoom r) (hw : wfRoom r) (hs : wfSpot s) (hb : b = true ↔ isFree r s) : ACd Tryd.prog 46 [.pointer (some ⟨pb, 0, none⟩), .agg #[.int .i8 s.x, .int .i8 s.y]] H (.bool b) (H) := by
  have ⟨r1, r2, r3, r4, r5⟩ := hr
  have ⟨⟨w1, w2⟩, ⟨w3, w4⟩, w5⟩ := hw
  have ⟨⟨s1, s2⟩, ⟨s3, s4⟩⟩ := hs
  obtain ⟨c, hc⟩ := exists_bool (isCell r s)
  refine ac_gc0 (fun β => VR.plainT β (by first | rfl | simp [plainT, plainV, plain1])) (ac_body Tryd.func46 rfl Tryd.ntmps46 rfl ?_)
  refine aw_seq ?_
  refine aw_region ?_
  refine al_opd rfl rfl rfl (ao_boxa (by rfl)) ?_
  refine al_opd rfl rfl rfl (ao_as (v := .bool _) rfl) ?_
  refine al_nilT ?_
  refine aw_seq ?_
  refine aw_draw (m := 19) mo (by kernel_rfl) rfl (fun _ _ _ h => h) ?_
  refine dw_opd rfl rfl rfl (ao_mv (v := .pointer _) rfl) ?_
  refine dw_opd rfl rfl rfl (ao_loada Tryd.isAgg48 Tryd.sizeOf48 rfl (by exact HLp) (by rfl) (by first | rfl | exact wallsL _ _ (by omega) | exact roomL _ _ (by omega) | exact roomLI _ _ (by omega) | (simp; (first | done | fail)))) ?_
  refine dw_opd rfl rfl rfl (ao_calld (l01Is_c (r := r) (s := s) (b := c) (by exact HLp) hr hw hs hc) Tryd.call67 rfl rfl) ?_
  refine dw_opd rfl rfl rfl (ao_mv (v := .bool _) rfl) ?_
  refine dw_cases (d := 8) rfl (fun h1_ => ?_) (fun h1_ => ?_)
  · try simp only [nrm] at h1_
    have hcl := hc.mp h1_
    have ⟨c1, c2, c3, c4, c5, c6⟩ := hcl
    refine dw_gyes rfl rfl rfl rfl rfl (ao_mv (v := .pointer _) rfl) ?_
    refine dw_gyes rfl rfl rfl rfl rfl (ao_fieldAddr fo_48_1 rfl) ?_
    refine dw_gyes rfl rfl rfl rfl rfl (ao_load (v := .int _ _) Tryd.isAgg24 (by rfl) (by exact HLp) (by rfl) (by first | rfl | exact wallsL _ _ (by omega) | exact roomL _ _ (by omega) | exact roomLI _ _ (by omega) | (simp; (first | done | fail)))) ?_
    refine dw_gyes rfl rfl rfl rfl rfl (ao_nilCheck rfl) ?_
    refine dw_gyes rfl rfl rfl rfl rfl (ao_fieldAddr fo_28_2 rfl) ?_
    refine dw_gyes rfl rfl rfl rfl rfl (ao_indexAddrA Tryd.underlying26 Tryd.sizeOf25 rfl rfl (by exact IXp) (by exact IXp)) ?_
    refine dw_gyes rfl rfl rfl rfl rfl (ao_load (v := .int _ _) Tryd.isAgg25 (by rfl) (by exact HLp) (by rfl) (by first | rfl | exact wallsL _ _ (by omega) | exact roomL _ _ (by omega) | exact roomLI _ _ (by omega) | (simp; (first | done | fail)))) ?_
    refine dw_gyes rfl rfl rfl rfl rfl (ao_fieldAddr fo_48_0 rfl) ?_
    refine dw_gyes rfl rfl rfl rfl rfl (ao_load (v := .int _ _) Tryd.isAgg24 (by rfl) (by exact HLp) (by rfl) (by first | rfl | exact wallsL _ _ (by omega) | exact roomL _ _ (by omega) | exact roomLI _ _ (by omega) | (simp; (first | done | fail)))) ?_
    first | refine dw_gyes rfl rfl rfl rfl rfl ((ao_conv ⟨_, Tryd.underlying24⟩ Tryd.underlying87 rfl).val (nw_u64 BDp BDp)) ?_ | refine dw_gyes rfl rfl rfl rfl rfl (ao_conv ⟨_, Tryd.underlying24⟩ Tryd.underlying87 rfl) ?_
    refine dw_gyes rfl rfl rfl rfl rfl ((ao_shr rfl rfl (by omega)).val (shr16 (r.f s.y.toNat) s.x (by omega) (by omega))) ?_
    refine dw_gyes rfl rfl rfl rfl rfl ((ao_rem rfl rfl (by decide)).val (rem2 _)) ?_
    refine dw_gyes rfl rfl rfl rfl rfl ((ao_eql rfl rfl).val (congrArg Value.bool (bit_eq (r.f s.y.toNat) s.x.toNat))) ?_
    refine dw_opd rfl rfl rfl (ao_pickT rfl (v := .bool _) rfl) ?_
    refine dw_opd rfl rfl rfl (ao_as (v := .bool _) rfl) ?_
    refine dw_end ?_
    refine al_nilT ?_
    refine aw_ret ?_
    refine ends1 rfl (rv_tmp (v := .bool _) rfl) ?_
    exact ⟨beqv hb ⟨fun e => ⟨hcl, by unfold bitAt; simpa using e⟩, fun e => by have := e.2; unfold bitAt at this; rw [this]; rfl⟩, by exact SMp⟩
  · try simp only [nrm] at h1_
    refine dw_gno rfl rfl rfl rfl rfl rfl ?_
    refine dw_gno rfl rfl rfl rfl rfl rfl ?_
    refine dw_gno rfl rfl rfl rfl rfl rfl ?_
    refine dw_gno rfl rfl rfl rfl rfl rfl ?_
    refine dw_gno rfl rfl rfl rfl rfl rfl ?_
    refine dw_gno rfl rfl rfl rfl rfl rfl ?_
    refine dw_gno rfl rfl rfl rfl rfl rfl ?_
    refine dw_gno rfl rfl rfl rfl rfl rfl ?_
    refine dw_gno rfl rfl rfl rfl rfl rfl ?_
    refine dw_gno rfl rfl rfl rfl rfl rfl ?_
    refine dw_gno rfl rfl rfl rfl rfl rfl ?_
    refine dw_gno rfl rfl rfl rfl rfl rfl ?_
    refine dw_gno rfl rfl rfl rfl rfl rfl ?_
    refine dw_opd rfl rfl rfl (ao_pickF rfl (v := .bool _) rfl) ?_
    refine dw_opd rfl rfl rfl (ao_as (v := .bool _) rfl) ?_
    refine dw_end ?_
    refine al_nilT ?_
    refine aw_ret ?_
    refine ends1 rfl (rv_tmp (v := .bool _) rfl) ?_
    exact ⟨bf hb (fun q => by rw [hc.mpr q.1] at h1_; cases h1_), by exact SMp⟩

-- spec.IsFree
theorem specIsFree_c {r : Room} {s : Spot} {b : Bool} {H : AHeap} (hw : wfRoom r) (hs : wfSpot s) (hb : b = true ↔ okRoom r ∧ isFree r s) : ACd Tryd.prog 31 [.agg (roomC r).toArray, .agg #[.int .i8 s.x, .int .i8 s.y]] H (.bool b) (H) := by
  obtain ⟨b1, hb1⟩ := exists_bool (okRoom r)
  obtain ⟨c, hc⟩ := exists_bool (isFree r s)
  refine ac_gc0 (fun β => VR.plainT β (by first | rfl | simp [plainT, plainV, plain1])) (ac_body Tryd.func31 rfl Tryd.ntmps31 rfl ?_)
  refine aw_seq ?_
  refine aw_region ?_
  refine al_opd rfl rfl rfl (ao_boxa (by rfl)) ?_
  refine al_opd rfl rfl rfl (ao_boxa (by rfl)) ?_
  refine al_opd rfl rfl rfl (ao_as (v := .bool _) rfl) ?_
  refine al_nilT ?_
  refine aw_seq ?_
  refine aw_region ?_
  refine al_opd rfl rfl rfl (ao_calld (l01Ok_c (r := r) (b := b1) (by exact HLp) hw hb1) Tryd.call44 rfl rfl) ?_
  refine al_opd rfl rfl rfl (ao_mv (v := .bool _) rfl) ?_
  refine al_cases (d := 6) rfl (fun h1_ => ?_) (fun h1_ => ?_)
  · try simp only [nrm] at h1_
    have hok := hb1.mp h1_
    refine al_gyes rfl rfl rfl rfl rfl (ao_loada Tryd.isAgg48 Tryd.sizeOf48 rfl (by exact HLp) (by rfl) (by exact RFp)) ?_
    refine al_gyes rfl rfl rfl rfl rfl (ao_calld (l01Free_c (r := r) (s := s) (b := c) (by exact HLp) (hb1.mp h1_) hw hs hc) Tryd.call46 rfl rfl) ?_
    refine al_opd rfl rfl rfl (ao_pickT rfl (v := .bool _) rfl) ?_
    refine al_opd rfl rfl rfl (ao_as (v := .bool _) rfl) ?_
    refine al_nilT ?_
    refine aw_ret ?_
    refine ends1 rfl (rv_tmp (v := .bool _) rfl) ?_
    exact ⟨beqv hb ⟨fun e => ⟨hok, hc.mp e⟩, fun q => hc.mpr q.2⟩, by exact SMp⟩
  · try simp only [nrm] at h1_
    refine al_gno rfl rfl rfl rfl rfl ?_
    refine al_gno rfl rfl rfl rfl rfl ?_
    refine al_opd rfl rfl rfl (ao_pickF rfl (v := .bool _) rfl) ?_
    refine al_opd rfl rfl rfl (ao_as (v := .bool _) rfl) ?_
    refine al_nilT ?_
    refine aw_ret ?_
    refine ends1 rfl (rv_tmp (v := .bool _) rfl) ?_
    exact ⟨bf hb (fun q => by rw [hb1.mpr q.1] at h1_; cases h1_), by exact SMp⟩

-- impl.IsFree
theorem implIsFree_c {r : Room} {s : Spot} {b : Bool} {H : AHeap} (hw : wfRoom r) (hs : wfSpot s) (hb : b = true ↔ okRoom r ∧ isFree r s) : ACd Tryd.prog 22 [.agg (roomC r).toArray, .agg #[.int .i8 s.x, .int .i8 s.y]] H (.bool b) (H) := by
  obtain ⟨b1, hb1⟩ := exists_bool (okRoom r)
  obtain ⟨c, hc⟩ := exists_bool (isFree r s)
  refine ac_gc0 (fun β => VR.plainT β (by first | rfl | simp [plainT, plainV, plain1])) (ac_body Tryd.func22 rfl Tryd.ntmps22 rfl ?_)
  refine aw_seq ?_
  refine aw_region ?_
  refine al_opd rfl rfl rfl (ao_boxa (by rfl)) ?_
  refine al_opd rfl rfl rfl (ao_boxa (by rfl)) ?_
  refine al_opd rfl rfl rfl (ao_as (v := .bool _) rfl) ?_
  refine al_nilT ?_
  refine aw_seq ?_
  refine aw_region ?_
  refine al_opd rfl rfl rfl (ao_loada Tryd.isAgg28 Tryd.sizeOf28 rfl (by exact HLp) (by rfl) (by exact RFp)) ?_
  refine al_opd rfl rfl rfl (ao_calld (implValid_c (r := r) (b := b1) hw hb1) Tryd.call17 rfl rfl) ?_
  refine al_opd rfl rfl rfl (ao_mv (v := .bool _) rfl) ?_
  refine al_cases (d := 7) rfl (fun h1_ => ?_) (fun h1_ => ?_)
  · try simp only [nrm] at h1_
    have hok := hb1.mp h1_
    refine al_gyes rfl rfl rfl rfl rfl (ao_loada Tryd.isAgg28 Tryd.sizeOf28 rfl (by exact HLp) (by rfl) (by exact RFp)) ?_
    refine al_gyes rfl rfl rfl rfl rfl (ao_loada Tryd.isAgg48 Tryd.sizeOf48 rfl (by exact HLp) (by rfl) (by exact RFp)) ?_
    refine al_gyes rfl rfl rfl rfl rfl (ao_calld (isFree_c (r := r) (s := s) (b := c) hw hs hc) Tryd.call41 rfl rfl) ?_
    refine al_opd rfl rfl rfl (ao_pickT rfl (v := .bool _) rfl) ?_
    refine al_opd rfl rfl rfl (ao_as (v := .bool _) rfl) ?_
    refine al_nilT ?_
    refine aw_ret ?_
    refine ends1 rfl (rv_tmp (v := .bool _) rfl) ?_
    exact ⟨beqv hb ⟨fun e => ⟨hok, hc.mp e⟩, fun q => hc.mpr q.2⟩, by exact SMp⟩
  · try simp only [nrm] at h1_
    refine al_gno rfl rfl rfl rfl rfl ?_
    refine al_gno rfl rfl rfl rfl rfl ?_
    refine al_gno rfl rfl rfl rfl rfl ?_
    refine al_opd rfl rfl rfl (ao_pickF rfl (v := .bool _) rfl) ?_
    refine al_opd rfl rfl rfl (ao_as (v := .bool _) rfl) ?_
    refine al_nilT ?_
    refine aw_ret ?_
    refine ends1 rfl (rv_tmp (v := .bool _) rfl) ?_
    exact ⟨bf hb (fun q => by rw [hb1.mpr q.1] at h1_; cases h1_), by exact SMp⟩

end Go.Proofs.YtmmmjdbknepjgaaDoor
