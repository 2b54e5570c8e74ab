/- Contracts of the program's functions over abstract heaps. -/
import Derived.Test.YtlcfmbaeaieomaaDoorFileT
import Derived.Test.YtlcfmbaeaieomaaDoorSplit
import Derived.Test.YtlcfmbaeaieomaaDoorLaws
import Derived.Test.YtlcfmbaeaieomaaDoorFl
namespace Go.Proofs.YtlcfmbaeaieomaaDoor
open Go Go.AW Go.Proofs
set_option linter.unusedVariables false
set_option linter.unusedSimpArgs false
set_option maxRecDepth 100000
set_option maxHeartbeats 2000000

-- spec.l02Plain
theorem l02Plain_c {l : List Spot} {lb c' : Nat} {b : Bool} {H : AHeap} (hk0 : H.blk lb = some (.cells (fl spot l) 2)) (hcc' : l.length ≤ c') (hn : l.length ≤ 4194304) (hsp : wfSpots l) (hb : b = true ↔ plainF l) : ACd Tryd.prog 14 [.slice (some ⟨lb, 0, none⟩) l.length c'] H (.bool b) (H) := by
  have hh0 : Sl H spot 2 (.slice (some ⟨lb, 0, none⟩) l.length c') l := Sl.full spot_len hk0 rfl rfl rfl
  have hlt0 := AHeap.lt hk0
  obtain ⟨b1, hb1⟩ := exists_bool (chain l)
  refine ac_gc0 (fun β => VR.plainT β (by first | rfl | simp [plainT, plainV, plain1])) (ac_body Tryd.func14 rfl Tryd.ntmps14 rfl ?_)
  refine aw_seq ?_
  refine aw_region ?_
  refine al_opd rfl rfl rfl (ao_as (v := .bool _) rfl) ?_
  refine al_nilT ?_
  refine aw_seq ?_
  refine aw_seq ?_
  refine aw_region ?_
  refine al_opd rfl rfl rfl (ao_as (v := .int _ _) rfl) ?_
  refine al_nilT ?_
  refine aw_block ?_
  refine aw_loop (fun (gk : Nat) (fr : AFr) (G : AHeap) => ∃ get : Nat → Value, fr = ⟨30, get⟩ ∧ (∃ i : Nat, i ≤ l.length ∧ gk = l.length - i ∧ H = G ∧ get 0 = .slice (some ⟨lb, 0, none⟩) l.length c' ∧ get 3 = .int .i64 i ∧ ∀ (j : Nat) x, j < i → l[j]? = some x → inB x)) (l.length) ⟨_, rfl, ?_⟩ ?_
  · exact ⟨0, Nat.zero_le _, rfl, rfl, rfl, rfl, fun j x h => by omega⟩
  · rintro gk fr G ⟨get, rfl, i, hi, rfl, rfl, g0, g3, hq⟩
    refine aw_slot (d := 0) (v := .slice (some ⟨lb, 0, none⟩) l.length c') (by first | assumption | rfl) ?_
    refine aw_slot (d := 3) (v := .int .i64 i) (by first | assumption | rfl) ?_
    refine aw_seq ?_
    refine aw_seq ?_
    refine aw_region ?_
    refine al_opd rfl rfl rfl (ao_mv (v := .int _ _) rfl) ?_
    refine al_opd rfl rfl rfl (ao_mv (v := .slice _ _ _) rfl) ?_
    first | refine al_opd rfl rfl rfl (ao_lenS Tryd.underlying26 (by rfl)) ?_ | refine al_opd rfl rfl rfl (ao_lenN Tryd.underlying26 (by rfl)) ?_ | refine al_opd rfl rfl rfl (ao_lenV Tryd.underlying26 rfl hh0) ?_
    refine al_opd rfl rfl rfl (ao_lss rfl rfl) ?_
    refine al_nilT ?_
    refine aw_cond rfl (fun h1_ => ?_) (fun h1_ => ?_)
    · try simp only [nrm] at h1_
      obtain ⟨x, hx⟩ := get_lt (show i < l.length by omega)
      have ⟨⟨w1, w2⟩, ⟨w3, w4⟩⟩ := hsp i x hx
      refine aw_skipT ?_
      refine aw_seq ?_
      refine aw_block ?_
      refine aw_seq ?_
      refine aw_region ?_
      refine al_opd rfl rfl rfl (ao_mv (v := .slice _ _ _) rfl) ?_
      refine al_opd rfl rfl rfl (ao_mv (v := .int _ _) rfl) ?_
      first | refine al_opd rfl rfl rfl (ao_indexAddrS Tryd.underlying26 Tryd.sizeOf37 rfl rfl (by exact IXp) (by exact IXp)) ?_ | refine al_opd rfl rfl rfl (ao_indexV Tryd.underlying26 Tryd.sizeOf37 rfl rfl hh0 (by exact IXp) (by exact IXp)) ?_
      refine al_opd rfl rfl rfl (ao_fieldAddr fo_37_0 rfl) ?_
      first | refine al_opd rfl rfl rfl (ao_load (v := .int _ _) Tryd.isAgg35 (by rfl) (by exact HLp) (by rfl) (by exact RFp)) ?_ | refine al_opd rfl rfl rfl (ao_loadV (j := 0) (u := .int _ _) Tryd.isAgg35 hh0 rfl rfl hx rfl) ?_ | refine al_opd rfl rfl rfl (ao_loadV (j := 1) (u := .int _ _) Tryd.isAgg35 hh0 rfl rfl hx rfl) ?_
      first | refine al_opd rfl rfl rfl ((ao_conv ⟨_, Tryd.underlying35⟩ Tryd.underlying2 rfl).val (nw_i64 BDp BDp)) ?_ | refine al_opd rfl rfl rfl (ao_conv ⟨_, Tryd.underlying35⟩ Tryd.underlying2 rfl) ?_
      refine al_opd rfl rfl rfl (ao_calld (l00In_c) Tryd.call32 rfl rfl) ?_
      refine al_opd rfl rfl rfl (ao_not rfl) ?_
      refine al_opd rfl rfl rfl (ao_mv (v := .bool _) rfl) ?_
      refine al_cases (d := 18) rfl (fun h2_ => ?_) (fun h2_ => ?_)
      · try simp only [nrm] at h2_
        refine al_gno rfl rfl rfl rfl rfl ?_
        refine al_gno rfl rfl rfl rfl rfl ?_
        refine al_gno rfl rfl rfl rfl rfl ?_
        refine al_gno rfl rfl rfl rfl rfl ?_
        refine al_gno rfl rfl rfl rfl rfl ?_
        refine al_gno rfl rfl rfl rfl rfl ?_
        refine al_gno rfl rfl rfl rfl rfl ?_
        refine al_gno rfl rfl rfl rfl rfl ?_
        refine al_opd rfl rfl rfl (ao_pickT rfl (v := .bool _) rfl) ?_
        refine al_nilT ?_
        refine aw_condT (by rfl) ⟨_, rfl⟩ ?_
        refine aw_seq ?_
        refine aw_region ?_
        refine al_opd rfl rfl rfl (ao_as (v := .bool _) rfl) ?_
        refine al_nilT ?_
        refine aw_ret ?_
        refine blockA_r ?_
        refine thenA_r ?_
        refine thenA_r ?_
        refine blockA_r ?_
        refine thenA_r ?_
        refine ends1 rfl (rv_tmp (v := .bool _) rfl) ?_
        first | exact ⟨bf hb (fun q => by have ⟨⟨z1, z2⟩, ⟨z3, z4⟩⟩ := q.2 i x hx; omega), by exact SMp⟩ | exact ⟨beqv hb ⟨fun e => ⟨hb1.mp e, fun j x hx => hq j x (by have := (List.getElem?_eq_some_iff.mp hx).1; omega) hx⟩, fun q => hb1.mpr q.1⟩, by exact SMp⟩
      · try simp only [nrm] at h2_
        refine al_gyes rfl rfl rfl rfl rfl (ao_mv (v := .slice _ _ _) rfl) ?_
        refine al_gyes rfl rfl rfl rfl rfl (ao_mv (v := .int _ _) rfl) ?_
        first | refine al_gyes rfl rfl rfl rfl rfl (ao_indexAddrS Tryd.underlying26 Tryd.sizeOf37 rfl rfl (by exact IXp) (by exact IXp)) ?_ | refine al_gyes rfl rfl rfl rfl rfl (ao_indexV Tryd.underlying26 Tryd.sizeOf37 rfl rfl hh0 (by exact IXp) (by exact IXp)) ?_
        refine al_gyes rfl rfl rfl rfl rfl (ao_fieldAddr fo_37_1 rfl) ?_
        first | refine al_gyes rfl rfl rfl rfl rfl (ao_load (v := .int _ _) Tryd.isAgg35 (by rfl) (by exact HLp) (by rfl) (by exact RFp)) ?_ | refine al_gyes rfl rfl rfl rfl rfl (ao_loadV (j := 0) (u := .int _ _) Tryd.isAgg35 hh0 rfl rfl hx rfl) ?_ | refine al_gyes rfl rfl rfl rfl rfl (ao_loadV (j := 1) (u := .int _ _) Tryd.isAgg35 hh0 rfl rfl hx rfl) ?_
        first | refine al_gyes rfl rfl rfl rfl rfl ((ao_conv ⟨_, Tryd.underlying35⟩ Tryd.underlying2 rfl).val (nw_i64 BDp BDp)) ?_ | refine al_gyes rfl rfl rfl rfl rfl (ao_conv ⟨_, Tryd.underlying35⟩ Tryd.underlying2 rfl) ?_
        refine al_gyes rfl rfl rfl rfl rfl (ao_calld (l00In_c) Tryd.call32 rfl rfl) ?_
        refine al_gyes rfl rfl rfl rfl rfl (ao_not rfl) ?_
        refine al_opd rfl rfl rfl (ao_pickF rfl (v := .bool _) rfl) ?_
        refine al_nilT ?_
        refine aw_cond rfl (fun h3_ => ?_) (fun h3_ => ?_)
        · try simp only [nrm] at h3_
          refine aw_seq ?_
          refine aw_region ?_
          refine al_opd rfl rfl rfl (ao_as (v := .bool _) rfl) ?_
          refine al_nilT ?_
          refine aw_ret ?_
          refine blockA_r ?_
          refine thenA_r ?_
          refine thenA_r ?_
          refine blockA_r ?_
          refine thenA_r ?_
          refine ends1 rfl (rv_tmp (v := .bool _) rfl) ?_
          first | exact ⟨bf hb (fun q => by have ⟨⟨z1, z2⟩, ⟨z3, z4⟩⟩ := q.2 i x hx; omega), by exact SMp⟩ | exact ⟨beqv hb ⟨fun e => ⟨hb1.mp e, fun j x hx => hq j x (by have := (List.getElem?_eq_some_iff.mp hx).1; omega) hx⟩, fun q => hb1.mpr q.1⟩, by exact SMp⟩
        · try simp only [nrm] at h3_
          refine aw_skipB ?_
          refine thenA_n ?_
          refine aw_region ?_
          refine al_opd rfl rfl rfl (ao_mv (v := .int _ _) rfl) ?_
          first | refine al_opd rfl rfl rfl ((ao_add rfl rfl).val (nw_i64 BDp BDp)) ?_ | refine al_opd rfl rfl rfl (ao_add rfl rfl) ?_
          refine al_opd rfl rfl rfl (ao_as (v := .int _ _) rfl) ?_
          refine al_nilT ?_
          refine ⟨_, ?_, _, rfl, i + 1, by omega, rfl, rfl, rfl, by rfl, fun j x' hj hx' => ?_⟩
          · omega
          · rcases Nat.lt_or_ge j i with h9 | h9
            · exact hq j x' h9 hx'
            · obtain rfl : j = i := by omega
              rw [hx] at hx'; cases hx'; exact ⟨by omega, by omega⟩
    · try simp only [nrm] at h1_
      refine aw_exit ?_
      refine thenA_x ?_
      refine thenA_x ?_
      refine blockA_hit ?_
      refine thenA_n ?_
      refine aw_seq ?_
      refine aw_region ?_
      refine al_opd rfl rfl rfl (ao_mv (v := .slice _ _ _) rfl) ?_
      refine al_opd rfl rfl rfl (ao_calld (l02Line_c (l := l) (lb := lb) (c' := c') (b := b1) (by exact HLp) hcc' hn hb1) Tryd.call33 rfl rfl) ?_
      refine al_opd rfl rfl rfl (ao_as (v := .bool _) rfl) ?_
      refine al_nilT ?_
      refine aw_ret ?_
      refine ends1 rfl (rv_tmp (v := .bool _) rfl) ?_
      first | exact ⟨bf hb (fun q => by have ⟨⟨z1, z2⟩, ⟨z3, z4⟩⟩ := q.2 i x hx; omega), by exact SMp⟩ | exact ⟨beqv hb ⟨fun e => ⟨hb1.mp e, fun j x hx => hq j x (by have := (List.getElem?_eq_some_iff.mp hx).1; omega) hx⟩, fun q => hb1.mpr q.1⟩, by exact SMp⟩

end Go.Proofs.YtlcfmbaeaieomaaDoor
