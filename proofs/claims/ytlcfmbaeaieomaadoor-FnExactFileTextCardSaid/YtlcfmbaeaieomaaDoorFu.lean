/- Contracts of the program's functions over abstract heaps. -/
import Derived.Test.YtlcfmbaeaieomaaDoorFileT
import Derived.Test.YtlcfmbaeaieomaaDoorSplit
import Derived.Test.YtlcfmbaeaieomaaDoorLaws
import Derived.Test.YtlcfmbaeaieomaaDoorRm
import Derived.Test.YtlcfmbaeaieomaaDoorFl
import Derived.Test.YtlcfmbaeaieomaaDoorFt
namespace Go.Proofs.YtlcfmbaeaieomaaDoor
open Go Go.AW Go.Proofs
set_option linter.unusedVariables false
set_option linter.unusedSimpArgs false
set_option maxRecDepth 100000
set_option maxHeartbeats 2000000

-- spec.l02Plain
theorem l02Plain_c {l : List Spot} {lb c' : Nat} {b : Bool} {H : AHeap} (hk0 : H.blk lb = some (.cells (fl spot l) 2)) (hcc' : l.length ≤ c') (hn : l.length ≤ 4194304) (hsp : wfSpots l) (hb : b = true ↔ plainF l) : ACd Tryd.prog 14 [.slice (some ⟨lb, 0, none⟩) l.length c'] H (.bool b) (H) := by
  have hh0 : Sl H spot 2 (.slice (some ⟨lb, 0, none⟩) l.length c') l := Sl.full spot_len hk0 rfl rfl rfl
  have hlt0 := AHeap.lt hk0
  obtain ⟨b1, hb1⟩ := exists_bool (chain l)
  refine ac_gc0 (fun β => VR.plainT β (by first | rfl | simp [plainT, plainV, plain1])) (ac_body Tryd.func14 rfl Tryd.ntmps14 rfl ?_)
  refine aw_seq ?_
  refine aw_region ?_
  refine al_opd rfl rfl rfl (ao_as (v := .bool _) rfl) ?_
  refine al_nilT ?_
  refine aw_seq ?_
  refine aw_seq ?_
  refine aw_region ?_
  refine al_opd rfl rfl rfl (ao_as (v := .int _ _) rfl) ?_
  refine al_nilT ?_
  refine aw_block ?_
  refine aw_loop (fun (gk : Nat) (fr : AFr) (G : AHeap) => ∃ get : Nat → Value, fr = ⟨30, get⟩ ∧ (∃ i : Nat, i ≤ l.length ∧ gk = l.length - i ∧ H = G ∧ get 0 = .slice (some ⟨lb, 0, none⟩) l.length c' ∧ get 3 = .int .i64 i ∧ ∀ (j : Nat) x, j < i → l[j]? = some x → inB x)) (l.length) ⟨_, rfl, ?_⟩ ?_
  · exact ⟨0, Nat.zero_le _, rfl, rfl, rfl, rfl, fun j x h => by omega⟩
  · rintro gk fr G ⟨get, rfl, i, hi, rfl, rfl, g0, g3, hq⟩
    refine aw_slot (d := 0) (v := .slice (some ⟨lb, 0, none⟩) l.length c') (by first | assumption | rfl) ?_
    refine aw_slot (d := 3) (v := .int .i64 i) (by first | assumption | rfl) ?_
    refine aw_seq ?_
    refine aw_seq ?_
    refine aw_region ?_
    refine al_opd rfl rfl rfl (ao_mv (v := .int _ _) rfl) ?_
    refine al_opd rfl rfl rfl (ao_mv (v := .slice _ _ _) rfl) ?_
    first | refine al_opd rfl rfl rfl (ao_lenS Tryd.underlying26 (by rfl)) ?_ | refine al_opd rfl rfl rfl (ao_lenN Tryd.underlying26 (by rfl)) ?_ | refine al_opd rfl rfl rfl (ao_lenV Tryd.underlying26 rfl hh0) ?_
    refine al_opd rfl rfl rfl (ao_lss rfl rfl) ?_
    refine al_nilT ?_
    refine aw_cond rfl (fun h1_ => ?_) (fun h1_ => ?_)
    · try simp only [nrm] at h1_
      obtain ⟨x, hx⟩ := get_lt (show i < l.length by omega)
      have ⟨⟨w1, w2⟩, ⟨w3, w4⟩⟩ := hsp i x hx
      refine aw_skipT ?_
      refine aw_seq ?_
      refine aw_block ?_
      refine aw_seq ?_
      refine aw_region ?_
      refine al_opd rfl rfl rfl (ao_mv (v := .slice _ _ _) rfl) ?_
      refine al_opd rfl rfl rfl (ao_mv (v := .int _ _) rfl) ?_
      first | refine al_opd rfl rfl rfl (ao_indexAddrS Tryd.underlying26 Tryd.sizeOf37 rfl rfl (by exact IXp) (by exact IXp)) ?_ | refine al_opd rfl rfl rfl (ao_indexV Tryd.underlying26 Tryd.sizeOf37 rfl rfl hh0 (by exact IXp) (by exact IXp)) ?_
      refine al_opd rfl rfl rfl (ao_fieldAddr fo_37_0 rfl) ?_
      first | refine al_opd rfl rfl rfl (ao_load (v := .int _ _) Tryd.isAgg35 (by rfl) (by exact HLp) (by rfl) (by exact RFp)) ?_ | refine al_opd rfl rfl rfl (ao_loadV (j := 0) (u := .int _ _) Tryd.isAgg35 hh0 rfl rfl hx rfl) ?_ | refine al_opd rfl rfl rfl (ao_loadV (j := 1) (u := .int _ _) Tryd.isAgg35 hh0 rfl rfl hx rfl) ?_
      first | refine al_opd rfl rfl rfl ((ao_conv ⟨_, Tryd.underlying35⟩ Tryd.underlying2 rfl).val (nw_i64 BDp BDp)) ?_ | refine al_opd rfl rfl rfl (ao_conv ⟨_, Tryd.underlying35⟩ Tryd.underlying2 rfl) ?_
      refine al_opd rfl rfl rfl (ao_calld (l00In_c) Tryd.call32 rfl rfl) ?_
      refine al_opd rfl rfl rfl (ao_not rfl) ?_
      refine al_opd rfl rfl rfl (ao_mv (v := .bool _) rfl) ?_
      refine al_cases (d := 18) rfl (fun h2_ => ?_) (fun h2_ => ?_)
      · try simp only [nrm] at h2_
        refine al_gno rfl rfl rfl rfl rfl ?_
        refine al_gno rfl rfl rfl rfl rfl ?_
        refine al_gno rfl rfl rfl rfl rfl ?_
        refine al_gno rfl rfl rfl rfl rfl ?_
        refine al_gno rfl rfl rfl rfl rfl ?_
        refine al_gno rfl rfl rfl rfl rfl ?_
        refine al_gno rfl rfl rfl rfl rfl ?_
        refine al_gno rfl rfl rfl rfl rfl ?_
        refine al_opd rfl rfl rfl (ao_pickT rfl (v := .bool _) rfl) ?_
        refine al_nilT ?_
        refine aw_condT (by rfl) ⟨_, rfl⟩ ?_
        refine aw_seq ?_
        refine aw_region ?_
        refine al_opd rfl rfl rfl (ao_as (v := .bool _) rfl) ?_
        refine al_nilT ?_
        refine aw_ret ?_
        refine blockA_r ?_
        refine thenA_r ?_
        refine thenA_r ?_
        refine blockA_r ?_
        refine thenA_r ?_
        refine ends1 rfl (rv_tmp (v := .bool _) rfl) ?_
        first | exact ⟨bf hb (fun q => by have ⟨⟨z1, z2⟩, ⟨z3, z4⟩⟩ := q.2 i x hx; omega), by exact SMp⟩ | exact ⟨beqv hb ⟨fun e => ⟨hb1.mp e, fun j x hx => hq j x (by have := (List.getElem?_eq_some_iff.mp hx).1; omega) hx⟩, fun q => hb1.mpr q.1⟩, by exact SMp⟩
      · try simp only [nrm] at h2_
        refine al_gyes rfl rfl rfl rfl rfl (ao_mv (v := .slice _ _ _) rfl) ?_
        refine al_gyes rfl rfl rfl rfl rfl (ao_mv (v := .int _ _) rfl) ?_
        first | refine al_gyes rfl rfl rfl rfl rfl (ao_indexAddrS Tryd.underlying26 Tryd.sizeOf37 rfl rfl (by exact IXp) (by exact IXp)) ?_ | refine al_gyes rfl rfl rfl rfl rfl (ao_indexV Tryd.underlying26 Tryd.sizeOf37 rfl rfl hh0 (by exact IXp) (by exact IXp)) ?_
        refine al_gyes rfl rfl rfl rfl rfl (ao_fieldAddr fo_37_1 rfl) ?_
        first | refine al_gyes rfl rfl rfl rfl rfl (ao_load (v := .int _ _) Tryd.isAgg35 (by rfl) (by exact HLp) (by rfl) (by exact RFp)) ?_ | refine al_gyes rfl rfl rfl rfl rfl (ao_loadV (j := 0) (u := .int _ _) Tryd.isAgg35 hh0 rfl rfl hx rfl) ?_ | refine al_gyes rfl rfl rfl rfl rfl (ao_loadV (j := 1) (u := .int _ _) Tryd.isAgg35 hh0 rfl rfl hx rfl) ?_
        first | refine al_gyes rfl rfl rfl rfl rfl ((ao_conv ⟨_, Tryd.underlying35⟩ Tryd.underlying2 rfl).val (nw_i64 BDp BDp)) ?_ | refine al_gyes rfl rfl rfl rfl rfl (ao_conv ⟨_, Tryd.underlying35⟩ Tryd.underlying2 rfl) ?_
        refine al_gyes rfl rfl rfl rfl rfl (ao_calld (l00In_c) Tryd.call32 rfl rfl) ?_
        refine al_gyes rfl rfl rfl rfl rfl (ao_not rfl) ?_
        refine al_opd rfl rfl rfl (ao_pickF rfl (v := .bool _) rfl) ?_
        refine al_nilT ?_
        refine aw_cond rfl (fun h3_ => ?_) (fun h3_ => ?_)
        · try simp only [nrm] at h3_
          refine aw_seq ?_
          refine aw_region ?_
          refine al_opd rfl rfl rfl (ao_as (v := .bool _) rfl) ?_
          refine al_nilT ?_
          refine aw_ret ?_
          refine blockA_r ?_
          refine thenA_r ?_
          refine thenA_r ?_
          refine blockA_r ?_
          refine thenA_r ?_
          refine ends1 rfl (rv_tmp (v := .bool _) rfl) ?_
          first | exact ⟨bf hb (fun q => by have ⟨⟨z1, z2⟩, ⟨z3, z4⟩⟩ := q.2 i x hx; omega), by exact SMp⟩ | exact ⟨beqv hb ⟨fun e => ⟨hb1.mp e, fun j x hx => hq j x (by have := (List.getElem?_eq_some_iff.mp hx).1; omega) hx⟩, fun q => hb1.mpr q.1⟩, by exact SMp⟩
        · try simp only [nrm] at h3_
          refine aw_skipB ?_
          refine thenA_n ?_
          refine aw_region ?_
          refine al_opd rfl rfl rfl (ao_mv (v := .int _ _) rfl) ?_
          first | refine al_opd rfl rfl rfl ((ao_add rfl rfl).val (nw_i64 BDp BDp)) ?_ | refine al_opd rfl rfl rfl (ao_add rfl rfl) ?_
          refine al_opd rfl rfl rfl (ao_as (v := .int _ _) rfl) ?_
          refine al_nilT ?_
          refine ⟨_, ?_, _, rfl, i + 1, by omega, rfl, rfl, rfl, by rfl, fun j x' hj hx' => ?_⟩
          · omega
          · rcases Nat.lt_or_ge j i with h9 | h9
            · exact hq j x' h9 hx'
            · obtain rfl : j = i := by omega
              rw [hx] at hx'; cases hx'; exact ⟨by omega, by omega⟩
    · try simp only [nrm] at h1_
      refine aw_exit ?_
      refine thenA_x ?_
      refine thenA_x ?_
      refine blockA_hit ?_
      refine thenA_n ?_
      refine aw_seq ?_
      refine aw_region ?_
      refine al_opd rfl rfl rfl (ao_mv (v := .slice _ _ _) rfl) ?_
      refine al_opd rfl rfl rfl (ao_calld (l02Line_c (l := l) (lb := lb) (c' := c') (b := b1) (by exact HLp) hcc' hn hb1) Tryd.call33 rfl rfl) ?_
      refine al_opd rfl rfl rfl (ao_as (v := .bool _) rfl) ?_
      refine al_nilT ?_
      refine aw_ret ?_
      refine ends1 rfl (rv_tmp (v := .bool _) rfl) ?_
      first | exact ⟨bf hb (fun q => by have ⟨⟨z1, z2⟩, ⟨z3, z4⟩⟩ := q.2 i x hx; omega), by exact SMp⟩ | exact ⟨beqv hb ⟨fun e => ⟨hb1.mp e, fun j x hx => hq j x (by have := (List.getElem?_eq_some_iff.mp hx).1; omega) hx⟩, fun q => hb1.mpr q.1⟩, by exact SMp⟩

-- spec.l02Text
theorem l02Text_c {l : List Spot} {lb c' : Nat} {H : AHeap} (hk0 : H.blk lb = some (.cells (fl spot l) 2)) (hcc' : l.length ≤ c') (hn : l.length ≤ 4194304) (hv : plainF l) : ACd Tryd.prog 15 [.slice (some ⟨lb, 0, none⟩) l.length c'] H (.string (fileTx l)) (H) := by
  have hh0 : Sl H spot 2 (.slice (some ⟨lb, 0, none⟩) l.length c') l := Sl.full spot_len hk0 rfl rfl rfl
  have hlt0 := AHeap.lt hk0
  have hv1 := hv.1.2.1
  have hv2 := hv.1.2.2
  obtain ⟨p0, hx0⟩ := get_lt (show 0 < l.length by omega)
  have ⟨⟨q1, q2⟩, ⟨q3, q4⟩⟩ := hv.2 0 p0 hx0
  refine ac_gc0 (fun β => VR.plainT β (by first | rfl | simp [plainT, plainV, plain1])) (ac_body Tryd.func15 rfl Tryd.ntmps15 rfl ?_)
  refine aw_seq ?_
  refine aw_region ?_
  refine al_opd rfl rfl rfl (ao_as (v := .string _) rfl) ?_
  refine al_nilT ?_
  refine aw_seq ?_
  refine aw_draw (m := 15) mo (by kernel_rfl) rfl (fun _ _ _ h => h) ?_
  refine dw_opd rfl rfl rfl (ao_mv (v := .slice _ _ _) rfl) ?_
  first | refine dw_opd rfl rfl rfl (ao_indexAddrS Tryd.underlying26 Tryd.sizeOf37 rfl rfl (by exact IXp) (by exact IXp)) ?_ | refine dw_opd rfl rfl rfl (ao_indexV Tryd.underlying26 Tryd.sizeOf37 rfl rfl hh (by exact IXp) (by exact IXp)) ?_ | refine dw_opd rfl rfl rfl (ao_indexV Tryd.underlying26 Tryd.sizeOf37 rfl rfl hh0 (by exact IXp) (by exact IXp)) ?_
  refine dw_opd rfl rfl rfl (ao_fieldAddr fo_37_0 rfl) ?_
  first | refine dw_opd rfl rfl rfl (ao_load (v := .int _ _) Tryd.isAgg35 (by rfl) (by exact HLp) (by rfl) (by exact RFp)) ?_ | refine dw_opd rfl rfl rfl (ao_loadV (j := 0) (u := .int _ _) Tryd.isAgg35 hh rfl rfl hx0 rfl) ?_ | refine dw_opd rfl rfl rfl (ao_loadV (j := 1) (u := .int _ _) Tryd.isAgg35 hh rfl rfl hx0 rfl) ?_ | refine dw_opd rfl rfl rfl (ao_loadV (j := 0) (u := .int _ _) Tryd.isAgg35 hh rfl rfl hx rfl) ?_ | refine dw_opd rfl rfl rfl (ao_loadV (j := 1) (u := .int _ _) Tryd.isAgg35 hh rfl rfl hx rfl) ?_ | refine dw_opd rfl rfl rfl (ao_loadV (j := 0) (u := .int _ _) Tryd.isAgg35 hh rfl rfl hy rfl) ?_ | refine dw_opd rfl rfl rfl (ao_loadV (j := 1) (u := .int _ _) Tryd.isAgg35 hh rfl rfl hy rfl) ?_ | refine dw_opd rfl rfl rfl (ao_loadV (j := 0) (u := .int _ _) Tryd.isAgg35 hh0 rfl rfl hx0 rfl) ?_ | refine dw_opd rfl rfl rfl (ao_loadV (j := 1) (u := .int _ _) Tryd.isAgg35 hh0 rfl rfl hx0 rfl) ?_ | refine dw_opd rfl rfl rfl (ao_loadV (j := 0) (u := .int _ _) Tryd.isAgg35 hh0 rfl rfl hx rfl) ?_ | refine dw_opd rfl rfl rfl (ao_loadV (j := 1) (u := .int _ _) Tryd.isAgg35 hh0 rfl rfl hx rfl) ?_ | refine dw_opd rfl rfl rfl (ao_loadV (j := 0) (u := .int _ _) Tryd.isAgg35 hh0 rfl rfl hy rfl) ?_ | refine dw_opd rfl rfl rfl (ao_loadV (j := 1) (u := .int _ _) Tryd.isAgg35 hh0 rfl rfl hy rfl) ?_
  first | refine dw_opd rfl rfl rfl ((ao_conv ⟨_, Tryd.underlying35⟩ Tryd.underlying2 rfl).val (nw_i64 BDp BDp)) ?_ | refine dw_opd rfl rfl rfl (ao_conv ⟨_, Tryd.underlying35⟩ Tryd.underlying2 rfl) ?_
  refine dw_opd rfl rfl rfl (ao_calld (specDec_c (n := p0.x) q1 q2) Tryd.call34 rfl rfl) ?_
  refine dw_opd rfl rfl rfl ((ao_sadd rfl rfl (by simp only [strOf_size, ByteArray.size_append, sz44, sz32, List.length_cons, List.length_nil]; omega))) ?_
  refine dw_opd rfl rfl rfl (ao_mv (v := .slice _ _ _) rfl) ?_
  first | refine dw_opd rfl rfl rfl (ao_indexAddrS Tryd.underlying26 Tryd.sizeOf37 rfl rfl (by exact IXp) (by exact IXp)) ?_ | refine dw_opd rfl rfl rfl (ao_indexV Tryd.underlying26 Tryd.sizeOf37 rfl rfl hh (by exact IXp) (by exact IXp)) ?_ | refine dw_opd rfl rfl rfl (ao_indexV Tryd.underlying26 Tryd.sizeOf37 rfl rfl hh0 (by exact IXp) (by exact IXp)) ?_
  refine dw_opd rfl rfl rfl (ao_fieldAddr fo_37_1 rfl) ?_
  first | refine dw_opd rfl rfl rfl (ao_load (v := .int _ _) Tryd.isAgg35 (by rfl) (by exact HLp) (by rfl) (by exact RFp)) ?_ | refine dw_opd rfl rfl rfl (ao_loadV (j := 0) (u := .int _ _) Tryd.isAgg35 hh rfl rfl hx0 rfl) ?_ | refine dw_opd rfl rfl rfl (ao_loadV (j := 1) (u := .int _ _) Tryd.isAgg35 hh rfl rfl hx0 rfl) ?_ | refine dw_opd rfl rfl rfl (ao_loadV (j := 0) (u := .int _ _) Tryd.isAgg35 hh rfl rfl hx rfl) ?_ | refine dw_opd rfl rfl rfl (ao_loadV (j := 1) (u := .int _ _) Tryd.isAgg35 hh rfl rfl hx rfl) ?_ | refine dw_opd rfl rfl rfl (ao_loadV (j := 0) (u := .int _ _) Tryd.isAgg35 hh rfl rfl hy rfl) ?_ | refine dw_opd rfl rfl rfl (ao_loadV (j := 1) (u := .int _ _) Tryd.isAgg35 hh rfl rfl hy rfl) ?_ | refine dw_opd rfl rfl rfl (ao_loadV (j := 0) (u := .int _ _) Tryd.isAgg35 hh0 rfl rfl hx0 rfl) ?_ | refine dw_opd rfl rfl rfl (ao_loadV (j := 1) (u := .int _ _) Tryd.isAgg35 hh0 rfl rfl hx0 rfl) ?_ | refine dw_opd rfl rfl rfl (ao_loadV (j := 0) (u := .int _ _) Tryd.isAgg35 hh0 rfl rfl hx rfl) ?_ | refine dw_opd rfl rfl rfl (ao_loadV (j := 1) (u := .int _ _) Tryd.isAgg35 hh0 rfl rfl hx rfl) ?_ | refine dw_opd rfl rfl rfl (ao_loadV (j := 0) (u := .int _ _) Tryd.isAgg35 hh0 rfl rfl hy rfl) ?_ | refine dw_opd rfl rfl rfl (ao_loadV (j := 1) (u := .int _ _) Tryd.isAgg35 hh0 rfl rfl hy rfl) ?_
  first | refine dw_opd rfl rfl rfl ((ao_conv ⟨_, Tryd.underlying35⟩ Tryd.underlying2 rfl).val (nw_i64 BDp BDp)) ?_ | refine dw_opd rfl rfl rfl (ao_conv ⟨_, Tryd.underlying35⟩ Tryd.underlying2 rfl) ?_
  refine dw_opd rfl rfl rfl (ao_calld (specDec_c (n := p0.y) q3 q4) Tryd.call34 rfl rfl) ?_
  refine dw_opd rfl rfl rfl ((ao_sadd rfl rfl (by simp only [strOf_size, ByteArray.size_append, sz44, sz32, List.length_cons, List.length_nil]; omega))) ?_
  refine dw_opd rfl rfl rfl (ao_as (v := .string _) rfl) ?_
  refine dw_end ?_
  refine al_nilT ?_
  refine aw_seq ?_
  refine aw_seq ?_
  refine aw_region ?_
  refine al_opd rfl rfl rfl (ao_as (v := .int _ _) rfl) ?_
  refine al_nilT ?_
  refine aw_block ?_
  refine aw_loop (fun (gk : Nat) (fr : AFr) (G : AHeap) => ∃ get : Nat → Value, fr = ⟨45, get⟩ ∧ (∃ k : Nat, k + 1 ≤ l.length ∧ gk = l.length - k ∧ Same H.next H G ∧ H.next ≤ G.next ∧ get 0 = .slice (some ⟨lb, 0, none⟩) l.length c' ∧ get 3 = .string (strOf (ftx l k)) ∧ get 4 = .int .i64 ((k + 1 : Nat) : Int))) (l.length) ⟨_, rfl, ?_⟩ ?_
  · exact ⟨0, by omega, rfl, by exact SMp, by exact LEp, rfl, congrArg Value.string (ftx_zero hx0), rfl⟩
  · rintro gk fr G ⟨get, rfl, k, hk, rfl, hG, hnx, g0, g3, g4⟩
    have hh : Sl G spot 2 (.slice (some ⟨lb, 0, none⟩) l.length c') l := Sl.full spot_len ((hG _ hlt0).trans hk0) rfl rfl rfl
    refine aw_slot (d := 0) (v := .slice (some ⟨lb, 0, none⟩) l.length c') (by first | assumption | rfl) ?_
    refine aw_slot (d := 3) (v := .string (strOf (ftx l k))) (by first | assumption | rfl) ?_
    refine aw_slot (d := 4) (v := .int .i64 ((k + 1 : Nat) : Int)) (by first | assumption | rfl) ?_
    refine aw_seq ?_
    refine aw_seq ?_
    refine aw_region ?_
    refine al_opd rfl rfl rfl (ao_mv (v := .int _ _) rfl) ?_
    refine al_opd rfl rfl rfl (ao_mv (v := .slice _ _ _) rfl) ?_
    first | refine al_opd rfl rfl rfl (ao_lenS Tryd.underlying26 (by rfl)) ?_ | refine al_opd rfl rfl rfl (ao_lenN Tryd.underlying26 (by rfl)) ?_ | refine al_opd rfl rfl rfl (ao_lenV Tryd.underlying26 rfl hh) ?_ | refine al_opd rfl rfl rfl (ao_lenV Tryd.underlying26 rfl hh0) ?_
    refine al_opd rfl rfl rfl (ao_lss rfl rfl) ?_
    refine al_nilT ?_
    refine aw_cond rfl (fun h1_ => ?_) (fun h1_ => ?_)
    · try simp only [nrm] at h1_
      obtain ⟨x, hx⟩ := get_lt (show k < l.length by omega)
      obtain ⟨y, hy⟩ := get_lt (show k + 1 < l.length by omega)
      have ⟨s0, s3⟩ := plain_step hv hx hy
      obtain ⟨ln, lc, hkn, hlc, hlv⟩ := side_letter s0 s3
      have htl := ftx_len l k
      refine aw_skipT ?_
      refine aw_seq ?_
      refine aw_block ?_
      refine aw_seq ?_
      refine aw_seq ?_
      refine aw_region ?_
      refine al_opd rfl rfl rfl (ao_mv (v := .int _ _) rfl) ?_
      refine al_opd rfl rfl rfl (ao_eql rfl rfl) ?_
      refine al_nilT ?_
      refine aw_cond rfl (fun h2_ => ?_) (fun h2_ => ?_)
      · try simp only [nrm] at h2_
        refine aw_region ?_
        refine al_opd rfl rfl rfl (ao_mv (v := .string _) rfl) ?_
        refine al_opd rfl rfl rfl ((ao_sadd rfl rfl (by simp only [strOf_size, ByteArray.size_append, sz44, sz32, List.length_cons, List.length_nil]; omega))) ?_
        refine al_opd rfl rfl rfl (ao_as (v := .string _) rfl) ?_
        refine al_nilT ?_
        refine aw_draw (m := 15) mo (by kernel_rfl) rfl (fun _ _ _ h => h) ?_
        refine dw_opd rfl rfl rfl (ao_mv (v := .string _) rfl) ?_
        refine dw_opd rfl rfl rfl (ao_mv (v := .slice _ _ _) rfl) ?_
        refine dw_opd rfl rfl rfl (ao_mv (v := .int _ _) rfl) ?_
        refine dw_opd rfl rfl rfl ((ao_sub rfl rfl).val (sub1 k (by omega))) ?_
        first | refine dw_opd rfl rfl rfl (ao_indexAddrS Tryd.underlying26 Tryd.sizeOf37 rfl rfl (by exact IXp) (by exact IXp)) ?_ | refine dw_opd rfl rfl rfl (ao_indexV Tryd.underlying26 Tryd.sizeOf37 rfl rfl hh (by exact IXp) (by exact IXp)) ?_ | refine dw_opd rfl rfl rfl (ao_indexV Tryd.underlying26 Tryd.sizeOf37 rfl rfl hh0 (by exact IXp) (by exact IXp)) ?_
        first | refine dw_opd rfl rfl rfl (ao_loada Tryd.isAgg37 Tryd.sizeOf37 rfl (by exact HLp) (by rfl) (by exact RFp)) ?_ | refine dw_opd rfl rfl rfl (ao_loadsV (A := #[.int _ _, .int _ _]) Tryd.isAgg37 Tryd.sizeOf37 hh rfl hx0 rfl (by decide)) ?_ | refine dw_opd rfl rfl rfl (ao_loadsV (A := #[.int _ _, .int _ _]) Tryd.isAgg37 Tryd.sizeOf37 hh rfl hx rfl (by decide)) ?_ | refine dw_opd rfl rfl rfl (ao_loadsV (A := #[.int _ _, .int _ _]) Tryd.isAgg37 Tryd.sizeOf37 hh rfl hy rfl (by decide)) ?_ | refine dw_opd rfl rfl rfl (ao_loadsV (A := #[.int _ _, .int _ _]) Tryd.isAgg37 Tryd.sizeOf37 hh0 rfl hx0 rfl (by decide)) ?_ | refine dw_opd rfl rfl rfl (ao_loadsV (A := #[.int _ _, .int _ _]) Tryd.isAgg37 Tryd.sizeOf37 hh0 rfl hx rfl (by decide)) ?_ | refine dw_opd rfl rfl rfl (ao_loadsV (A := #[.int _ _, .int _ _]) Tryd.isAgg37 Tryd.sizeOf37 hh0 rfl hy rfl (by decide)) ?_
        refine dw_opd rfl rfl rfl (ao_mv (v := .slice _ _ _) rfl) ?_
        refine dw_opd rfl rfl rfl (ao_mv (v := .int _ _) rfl) ?_
        first | refine dw_opd rfl rfl rfl (ao_indexAddrS Tryd.underlying26 Tryd.sizeOf37 rfl rfl (by exact IXp) (by exact IXp)) ?_ | refine dw_opd rfl rfl rfl (ao_indexV Tryd.underlying26 Tryd.sizeOf37 rfl rfl hh (by exact IXp) (by exact IXp)) ?_ | refine dw_opd rfl rfl rfl (ao_indexV Tryd.underlying26 Tryd.sizeOf37 rfl rfl hh0 (by exact IXp) (by exact IXp)) ?_
        first | refine dw_opd rfl rfl rfl (ao_loada Tryd.isAgg37 Tryd.sizeOf37 rfl (by exact HLp) (by rfl) (by exact RFp)) ?_ | refine dw_opd rfl rfl rfl (ao_loadsV (A := #[.int _ _, .int _ _]) Tryd.isAgg37 Tryd.sizeOf37 hh rfl hx0 rfl (by decide)) ?_ | refine dw_opd rfl rfl rfl (ao_loadsV (A := #[.int _ _, .int _ _]) Tryd.isAgg37 Tryd.sizeOf37 hh rfl hx rfl (by decide)) ?_ | refine dw_opd rfl rfl rfl (ao_loadsV (A := #[.int _ _, .int _ _]) Tryd.isAgg37 Tryd.sizeOf37 hh rfl hy rfl (by decide)) ?_ | refine dw_opd rfl rfl rfl (ao_loadsV (A := #[.int _ _, .int _ _]) Tryd.isAgg37 Tryd.sizeOf37 hh0 rfl hx0 rfl (by decide)) ?_ | refine dw_opd rfl rfl rfl (ao_loadsV (A := #[.int _ _, .int _ _]) Tryd.isAgg37 Tryd.sizeOf37 hh0 rfl hx rfl (by decide)) ?_ | refine dw_opd rfl rfl rfl (ao_loadsV (A := #[.int _ _, .int _ _]) Tryd.isAgg37 Tryd.sizeOf37 hh0 rfl hy rfl (by decide)) ?_
        refine dw_opd rfl rfl rfl (ao_calld (l01To_c (a := x) (b := y) (r := sideOf x y) (sideOf_first x y)) Tryd.call35 rfl rfl) ?_
        refine dw_opd rfl rfl rfl ((ao_indexStr Tryd.underlying9 (by rfl) (by rfl) hkn hlc).val hlv) ?_
        refine dw_opn rfl rfl rfl (ao_lit1 (v := .int _ _) Tryd.underlying61 Tryd.sizeOf5 Tryd.zeroValue5 (by rfl) (by rfl) rfl rfl (by rfl) (by exact RFp)) ?_
        refine dw_opd rfl rfl rfl (ao_b2s (by rfl) (by rfl) (by rfl) rfl (Sl.full u8_len (by exact HLp) rfl rfl rfl : Sl _ u8 1 _ [ltr4 (sideOf x y)])) ?_
        refine dw_opd rfl rfl rfl ((ao_sadd rfl rfl (by simp only [strOf_size, ByteArray.size_append, sz44, sz32, List.length_cons, List.length_nil]; omega))) ?_
        refine dw_end ?_
        refine al_opd rfl rfl rfl (ao_as (v := .string _) rfl) ?_
        refine al_nilB ?_
        refine thenA_n ?_
        refine aw_region ?_
        refine al_opd rfl rfl rfl (ao_mv (v := .int _ _) rfl) ?_
        first | refine al_opd rfl rfl rfl ((ao_add rfl rfl).val (nw_i64 BDp BDp)) ?_ | refine al_opd rfl rfl rfl (ao_add rfl rfl) ?_
        refine al_opd rfl rfl rfl (ao_as (v := .int _ _) rfl) ?_
        refine al_nilT ?_
        exact ⟨_, by omega, _, rfl, k + 1, by omega, rfl, by exact SMp, by exact LEp, rfl, congrArg Value.string (ftx_one (by omega) hx hy), by rfl⟩
      · try simp only [nrm] at h2_
        refine aw_skipT ?_
        refine aw_draw (m := 15) mo (by kernel_rfl) rfl (fun _ _ _ h => h) ?_
        refine dw_opd rfl rfl rfl (ao_mv (v := .string _) rfl) ?_
        refine dw_opd rfl rfl rfl (ao_mv (v := .slice _ _ _) rfl) ?_
        refine dw_opd rfl rfl rfl (ao_mv (v := .int _ _) rfl) ?_
        refine dw_opd rfl rfl rfl ((ao_sub rfl rfl).val (sub1 k (by omega))) ?_
        first | refine dw_opd rfl rfl rfl (ao_indexAddrS Tryd.underlying26 Tryd.sizeOf37 rfl rfl (by exact IXp) (by exact IXp)) ?_ | refine dw_opd rfl rfl rfl (ao_indexV Tryd.underlying26 Tryd.sizeOf37 rfl rfl hh (by exact IXp) (by exact IXp)) ?_ | refine dw_opd rfl rfl rfl (ao_indexV Tryd.underlying26 Tryd.sizeOf37 rfl rfl hh0 (by exact IXp) (by exact IXp)) ?_
        first | refine dw_opd rfl rfl rfl (ao_loada Tryd.isAgg37 Tryd.sizeOf37 rfl (by exact HLp) (by rfl) (by exact RFp)) ?_ | refine dw_opd rfl rfl rfl (ao_loadsV (A := #[.int _ _, .int _ _]) Tryd.isAgg37 Tryd.sizeOf37 hh rfl hx0 rfl (by decide)) ?_ | refine dw_opd rfl rfl rfl (ao_loadsV (A := #[.int _ _, .int _ _]) Tryd.isAgg37 Tryd.sizeOf37 hh rfl hx rfl (by decide)) ?_ | refine dw_opd rfl rfl rfl (ao_loadsV (A := #[.int _ _, .int _ _]) Tryd.isAgg37 Tryd.sizeOf37 hh rfl hy rfl (by decide)) ?_ | refine dw_opd rfl rfl rfl (ao_loadsV (A := #[.int _ _, .int _ _]) Tryd.isAgg37 Tryd.sizeOf37 hh0 rfl hx0 rfl (by decide)) ?_ | refine dw_opd rfl rfl rfl (ao_loadsV (A := #[.int _ _, .int _ _]) Tryd.isAgg37 Tryd.sizeOf37 hh0 rfl hx rfl (by decide)) ?_ | refine dw_opd rfl rfl rfl (ao_loadsV (A := #[.int _ _, .int _ _]) Tryd.isAgg37 Tryd.sizeOf37 hh0 rfl hy rfl (by decide)) ?_
        refine dw_opd rfl rfl rfl (ao_mv (v := .slice _ _ _) rfl) ?_
        refine dw_opd rfl rfl rfl (ao_mv (v := .int _ _) rfl) ?_
        first | refine dw_opd rfl rfl rfl (ao_indexAddrS Tryd.underlying26 Tryd.sizeOf37 rfl rfl (by exact IXp) (by exact IXp)) ?_ | refine dw_opd rfl rfl rfl (ao_indexV Tryd.underlying26 Tryd.sizeOf37 rfl rfl hh (by exact IXp) (by exact IXp)) ?_ | refine dw_opd rfl rfl rfl (ao_indexV Tryd.underlying26 Tryd.sizeOf37 rfl rfl hh0 (by exact IXp) (by exact IXp)) ?_
        first | refine dw_opd rfl rfl rfl (ao_loada Tryd.isAgg37 Tryd.sizeOf37 rfl (by exact HLp) (by rfl) (by exact RFp)) ?_ | refine dw_opd rfl rfl rfl (ao_loadsV (A := #[.int _ _, .int _ _]) Tryd.isAgg37 Tryd.sizeOf37 hh rfl hx0 rfl (by decide)) ?_ | refine dw_opd rfl rfl rfl (ao_loadsV (A := #[.int _ _, .int _ _]) Tryd.isAgg37 Tryd.sizeOf37 hh rfl hx rfl (by decide)) ?_ | refine dw_opd rfl rfl rfl (ao_loadsV (A := #[.int _ _, .int _ _]) Tryd.isAgg37 Tryd.sizeOf37 hh rfl hy rfl (by decide)) ?_ | refine dw_opd rfl rfl rfl (ao_loadsV (A := #[.int _ _, .int _ _]) Tryd.isAgg37 Tryd.sizeOf37 hh0 rfl hx0 rfl (by decide)) ?_ | refine dw_opd rfl rfl rfl (ao_loadsV (A := #[.int _ _, .int _ _]) Tryd.isAgg37 Tryd.sizeOf37 hh0 rfl hx rfl (by decide)) ?_ | refine dw_opd rfl rfl rfl (ao_loadsV (A := #[.int _ _, .int _ _]) Tryd.isAgg37 Tryd.sizeOf37 hh0 rfl hy rfl (by decide)) ?_
        refine dw_opd rfl rfl rfl (ao_calld (l01To_c (a := x) (b := y) (r := sideOf x y) (sideOf_first x y)) Tryd.call35 rfl rfl) ?_
        refine dw_opd rfl rfl rfl ((ao_indexStr Tryd.underlying9 (by rfl) (by rfl) hkn hlc).val hlv) ?_
        refine dw_opn rfl rfl rfl (ao_lit1 (v := .int _ _) Tryd.underlying61 Tryd.sizeOf5 Tryd.zeroValue5 (by rfl) (by rfl) rfl rfl (by rfl) (by exact RFp)) ?_
        refine dw_opd rfl rfl rfl (ao_b2s (by rfl) (by rfl) (by rfl) rfl (Sl.full u8_len (by exact HLp) rfl rfl rfl : Sl _ u8 1 _ [ltr4 (sideOf x y)])) ?_
        refine dw_opd rfl rfl rfl ((ao_sadd rfl rfl (by simp only [strOf_size, ByteArray.size_append, sz44, sz32, List.length_cons, List.length_nil]; omega))) ?_
        refine dw_end ?_
        refine al_opd rfl rfl rfl (ao_as (v := .string _) rfl) ?_
        refine al_nilB ?_
        refine thenA_n ?_
        refine aw_region ?_
        refine al_opd rfl rfl rfl (ao_mv (v := .int _ _) rfl) ?_
        first | refine al_opd rfl rfl rfl ((ao_add rfl rfl).val (nw_i64 BDp BDp)) ?_ | refine al_opd rfl rfl rfl (ao_add rfl rfl) ?_
        refine al_opd rfl rfl rfl (ao_as (v := .int _ _) rfl) ?_
        refine al_nilT ?_
        exact ⟨_, by omega, _, rfl, k + 1, by omega, rfl, by exact SMp, by exact LEp, rfl, congrArg Value.string (ftx_more (by omega) hx hy), by rfl⟩
    · try simp only [nrm] at h1_
      refine aw_exit ?_
      refine thenA_x ?_
      refine thenA_x ?_
      refine blockA_hit ?_
      refine thenA_n ?_
      refine aw_seq ?_
      refine aw_region ?_
      refine al_opd rfl rfl rfl (ao_mv (v := .string _) rfl) ?_
      refine al_opd rfl rfl rfl (ao_as (v := .string _) rfl) ?_
      refine al_nilT ?_
      refine aw_ret ?_
      refine ends1 rfl (rv_tmp (v := .string _) rfl) ?_
      have hkk : k = l.length - 1 := by omega
      subst hkk
      exact ⟨rfl, by exact SMp⟩

-- spec.FileText
theorem specFt1_c {l : List Spot} {lb c' : Nat} {H : AHeap} (hk0 : H.blk lb = some (.cells (fl spot l) 2)) (hcc' : l.length ≤ c') (hn : l.length ≤ 4194304) (hsp : wfSpots l) (hv : plainF l) : ACd Tryd.prog 6 [.slice (some ⟨lb, 0, none⟩) l.length c'] H (.string (fileTx l)) (H) := by
  refine ac_gc0 (fun β => VR.plainT β (by first | rfl | simp [plainT, plainV, plain1])) (ac_body Tryd.func6 rfl Tryd.ntmps6 rfl ?_)
  refine aw_seq ?_
  refine aw_region ?_
  refine al_opd rfl rfl rfl (ao_as (v := .string _) rfl) ?_
  refine al_nilT ?_
  refine aw_seq ?_
  refine aw_seq ?_
  refine aw_region ?_
  refine al_opd rfl rfl rfl (ao_mv (v := .slice _ _ _) rfl) ?_
  refine al_opd rfl rfl rfl (ao_calld (l02Plain_c (l := l) (lb := lb) (c' := c') (b := true) (by exact HLp) hcc' hn hsp (yes hv)) Tryd.call14 rfl rfl) ?_
  refine al_opd rfl rfl rfl (ao_not rfl) ?_
  refine al_nilT ?_
  refine aw_cond rfl (fun h1_ => ?_) (fun h1_ => ?_)
  · try simp only [nrm] at h1_
    first | done | omega | (exfalso; revert h1_; simp; (first | done | omega))
  try simp only [nrm] at h1_
  refine aw_skipT ?_
  refine aw_seq ?_
  refine aw_region ?_
  refine al_opd rfl rfl rfl (ao_mv (v := .slice _ _ _) rfl) ?_
  refine al_opd rfl rfl rfl (ao_calld (l02Text_c (l := l) (lb := lb) (c' := c') (by exact HLp) hcc' hn hv) Tryd.call15 rfl rfl) ?_
  refine al_opd rfl rfl rfl (ao_as (v := .string _) rfl) ?_
  refine al_nilT ?_
  refine aw_ret ?_
  refine ends1 rfl (rv_tmp (v := .string _) rfl) ?_
  exact ⟨by first | rfl | (simp [*]; (first | done | fail)), by exact SMp⟩

-- spec.FileText
theorem specFt0_c {l : List Spot} {lb c' : Nat} {H : AHeap} (hk0 : H.blk lb = some (.cells (fl spot l) 2)) (hcc' : l.length ≤ c') (hn : l.length ≤ 4194304) (hsp : wfSpots l) (hv : ¬ plainF l) : ACd Tryd.prog 6 [.slice (some ⟨lb, 0, none⟩) l.length c'] H (.string ⟨#[]⟩) (H) := by
  refine ac_gc0 (fun β => VR.plainT β (by first | rfl | simp [plainT, plainV, plain1])) (ac_body Tryd.func6 rfl Tryd.ntmps6 rfl ?_)
  refine aw_seq ?_
  refine aw_region ?_
  refine al_opd rfl rfl rfl (ao_as (v := .string _) rfl) ?_
  refine al_nilT ?_
  refine aw_seq ?_
  refine aw_seq ?_
  refine aw_region ?_
  refine al_opd rfl rfl rfl (ao_mv (v := .slice _ _ _) rfl) ?_
  refine al_opd rfl rfl rfl (ao_calld (l02Plain_c (l := l) (lb := lb) (c' := c') (b := false) (by exact HLp) hcc' hn hsp (no hv)) Tryd.call14 rfl rfl) ?_
  refine al_opd rfl rfl rfl (ao_not rfl) ?_
  refine al_nilT ?_
  refine aw_cond rfl (fun h1_ => ?_) (fun h1_ => ?_)
  rotate_left
  · try simp only [nrm] at h1_
    first | done | omega | (exfalso; revert h1_; simp; (first | done | omega))
  try simp only [nrm] at h1_
  refine aw_seq ?_
  refine aw_region ?_
  refine al_opd rfl rfl rfl (ao_as (v := .string _) rfl) ?_
  refine al_nilT ?_
  refine aw_ret ?_
  refine thenA_r ?_
  refine ends1 rfl (rv_tmp (v := .string _) rfl) ?_
  exact ⟨by first | rfl | (simp [*]; (first | done | fail)), by exact SMp⟩

-- laws.FnExactFileText
theorem lawFt1_c {v : Value} {l : List Spot} {H : AHeap} (ha : Sl H spot 2 v l) (hl : l.length ≤ 9223372036854775807) (hsp : wfSpots l) (hv : plainF l) : ACd Tryd.prog 3 [v] H (.bool true) (H) := by
  refine ac_gc0 (fun β => VR.plainT β (by first | rfl | simp [plainT, plainV, plain1])) (ac_body Tryd.func3 rfl Tryd.ntmps3 rfl ?_)
  refine aw_seq ?_
  refine aw_region ?_
  refine al_opd rfl rfl rfl (ao_as (v := .bool _) rfl) ?_
  refine al_nilT ?_
  refine aw_seq ?_
  refine aw_region ?_
  refine al_opd rfl rfl rfl (ao_as (v := .int _ _) rfl) ?_
  refine al_nilT ?_
  refine aw_seq ?_
  refine aw_region ?_
  first | refine al_opd rfl rfl rfl (ao_mv (v := .slice _ _ _) rfl) ?_ | refine al_opd rfl rfl rfl (ao_mv (v := v) rfl) ?_
  refine al_opd rfl rfl rfl (ao_mv (v := .int _ _) rfl) ?_
  refine al_opd rfl rfl rfl (ao_calld (szFile_c (v := v) (l := l) (k := 1048576) (ha.mono (by exact SMp)) hl (by omega)) Tryd.call5 rfl rfl) ?_
  refine al_opd rfl rfl rfl (ao_as (v := .int _ _) rfl) ?_
  refine al_nilT ?_
  refine aw_seq ?_
  refine aw_seq ?_
  refine aw_region ?_
  refine al_opd rfl rfl rfl (ao_mv (v := .int _ _) rfl) ?_
  refine al_opd rfl rfl rfl (ao_lss rfl rfl) ?_
  refine al_nilT ?_
  refine aw_cond rfl (fun h1_ => ?_) (fun h1_ => ?_)
  · try simp only [nrm] at h1_
    refine aw_seq ?_
    refine aw_region ?_
    refine al_opd rfl rfl rfl (ao_as (v := .bool _) rfl) ?_
    refine al_nilT ?_
    refine aw_ret ?_
    refine thenA_r ?_
    refine ends1 rfl (rv_tmp (v := .bool _) rfl) ?_
    exact ⟨by first | rfl | (simp [*]; (first | done | fail)), by exact SMp⟩
  · try simp only [nrm] at h1_
    have hl1 : l.length ≤ 1048576 := by omega
    refine aw_skipT ?_
    refine aw_seq ?_
    refine aw_region ?_
    first | refine al_opd rfl rfl rfl (ao_mv (v := .slice _ _ _) rfl) ?_ | refine al_opd rfl rfl rfl (ao_mv (v := v) rfl) ?_
    refine al_opd rfl rfl rfl (ao_calld (toFile_c (v := v) (l := l) (ha.mono (by exact SMp)) (by omega)) Tryd.call7 rfl rfl) ?_
    refine al_opd rfl rfl rfl (ao_calld (specFt1_c (l := l) (by exact HLp) (by omega) (by omega) hsp hv) Tryd.call6 rfl rfl) ?_
    first | refine al_opd rfl rfl rfl (ao_as (v := .string _) rfl) ?_ | refine al_opd rfl rfl rfl (ao_as (v := v) rfl) ?_
    refine al_nilT ?_
    refine aw_seq ?_
    refine aw_region ?_
    first | refine al_opd rfl rfl rfl (ao_mv (v := .slice _ _ _) rfl) ?_ | refine al_opd rfl rfl rfl (ao_mv (v := v) rfl) ?_
    refine al_opd rfl rfl rfl (ao_calld (toFile_c (v := v) (l := l) (ha.mono (by exact SMp)) (by omega)) Tryd.call7 rfl rfl) ?_
    first | refine al_opd rfl rfl rfl (ao_as (v := .slice _ _ _) rfl) ?_ | refine al_opd rfl rfl rfl (ao_as (v := v) rfl) ?_
    refine al_nilT ?_
    refine aw_seq ?_
    refine aw_region ?_
    first | refine al_opd rfl rfl rfl (ao_mv (v := .slice _ _ _) rfl) ?_ | refine al_opd rfl rfl rfl (ao_mv (v := v) rfl) ?_
    refine al_opd rfl rfl rfl (ao_calld (implFt1_c (l := l) (by exact HLp) (by omega) (by omega) hsp hv) Tryd.call8 rfl rfl) ?_
    first | refine al_opd rfl rfl rfl (ao_as (v := .string _) rfl) ?_ | refine al_opd rfl rfl rfl (ao_as (v := v) rfl) ?_
    refine al_nilT ?_
    refine aw_seq ?_
    refine aw_seq ?_
    refine aw_region ?_
    first | refine al_opd rfl rfl rfl (ao_mv (v := .string _) rfl) ?_ | refine al_opd rfl rfl rfl (ao_mv (v := v) rfl) ?_
    first | refine al_opd rfl rfl rfl (ao_mv (v := .string _) rfl) ?_ | refine al_opd rfl rfl rfl (ao_mv (v := v) rfl) ?_
    refine al_opd rfl rfl rfl (ao_sneq rfl rfl) ?_
    refine al_nilT ?_
    refine aw_cond rfl (fun h2_ => ?_) (fun h2_ => ?_)
    · try simp only [nrm] at h2_
      first | done | omega | (exfalso; revert h2_; simp; (first | done | omega))
    try simp only [nrm] at h2_
    refine aw_skipT ?_
    refine aw_seq ?_
    refine aw_seq ?_
    refine aw_region ?_
    first | refine al_opd rfl rfl rfl (ao_mv (v := .slice _ _ _) rfl) ?_ | refine al_opd rfl rfl rfl (ao_mv (v := v) rfl) ?_
    first | refine al_opd rfl rfl rfl (ao_mv (v := .slice _ _ _) rfl) ?_ | refine al_opd rfl rfl rfl (ao_mv (v := v) rfl) ?_
    refine al_opd rfl rfl rfl (ao_calld (toFile_c (v := v) (l := l) (ha.mono (by exact SMp)) (by omega)) Tryd.call7 rfl rfl) ?_
    refine al_opd rfl rfl rfl (ao_calld (eqFile_c (l := l) (m := l) (Sl.full spot_len (by exact HLp) rfl rfl rfl) (Sl.full spot_len (by exact HLp) rfl rfl rfl) (by omega)) Tryd.call9 rfl rfl) ?_
    refine al_opd rfl rfl rfl (ao_not rfl) ?_
    refine al_nilT ?_
    refine aw_cond rfl (fun h3_ => ?_) (fun h3_ => ?_)
    · try simp only [nrm] at h3_
      first | done | omega | (exfalso; revert h3_; simp; (first | done | omega))
    try simp only [nrm] at h3_
    refine aw_skipT ?_
    refine aw_seq ?_
    refine aw_region ?_
    refine al_opd rfl rfl rfl (ao_as (v := .bool _) rfl) ?_
    refine al_nilT ?_
    refine aw_ret ?_
    refine ends1 rfl (rv_tmp (v := .bool _) rfl) ?_
    exact ⟨by first | rfl | (simp [*]; (first | done | fail)), by exact SMp⟩

-- laws.FnExactFileText
theorem lawFt0_c {v : Value} {l : List Spot} {H : AHeap} (ha : Sl H spot 2 v l) (hl : l.length ≤ 9223372036854775807) (hsp : wfSpots l) (hv : ¬ plainF l) : ACd Tryd.prog 3 [v] H (.bool true) (H) := by
  refine ac_gc0 (fun β => VR.plainT β (by first | rfl | simp [plainT, plainV, plain1])) (ac_body Tryd.func3 rfl Tryd.ntmps3 rfl ?_)
  refine aw_seq ?_
  refine aw_region ?_
  refine al_opd rfl rfl rfl (ao_as (v := .bool _) rfl) ?_
  refine al_nilT ?_
  refine aw_seq ?_
  refine aw_region ?_
  refine al_opd rfl rfl rfl (ao_as (v := .int _ _) rfl) ?_
  refine al_nilT ?_
  refine aw_seq ?_
  refine aw_region ?_
  first | refine al_opd rfl rfl rfl (ao_mv (v := .slice _ _ _) rfl) ?_ | refine al_opd rfl rfl rfl (ao_mv (v := v) rfl) ?_
  refine al_opd rfl rfl rfl (ao_mv (v := .int _ _) rfl) ?_
  refine al_opd rfl rfl rfl (ao_calld (szFile_c (v := v) (l := l) (k := 1048576) (ha.mono (by exact SMp)) hl (by omega)) Tryd.call5 rfl rfl) ?_
  refine al_opd rfl rfl rfl (ao_as (v := .int _ _) rfl) ?_
  refine al_nilT ?_
  refine aw_seq ?_
  refine aw_seq ?_
  refine aw_region ?_
  refine al_opd rfl rfl rfl (ao_mv (v := .int _ _) rfl) ?_
  refine al_opd rfl rfl rfl (ao_lss rfl rfl) ?_
  refine al_nilT ?_
  refine aw_cond rfl (fun h1_ => ?_) (fun h1_ => ?_)
  · try simp only [nrm] at h1_
    refine aw_seq ?_
    refine aw_region ?_
    refine al_opd rfl rfl rfl (ao_as (v := .bool _) rfl) ?_
    refine al_nilT ?_
    refine aw_ret ?_
    refine thenA_r ?_
    refine ends1 rfl (rv_tmp (v := .bool _) rfl) ?_
    exact ⟨by first | rfl | (simp [*]; (first | done | fail)), by exact SMp⟩
  · try simp only [nrm] at h1_
    have hl1 : l.length ≤ 1048576 := by omega
    refine aw_skipT ?_
    refine aw_seq ?_
    refine aw_region ?_
    first | refine al_opd rfl rfl rfl (ao_mv (v := .slice _ _ _) rfl) ?_ | refine al_opd rfl rfl rfl (ao_mv (v := v) rfl) ?_
    refine al_opd rfl rfl rfl (ao_calld (toFile_c (v := v) (l := l) (ha.mono (by exact SMp)) (by omega)) Tryd.call7 rfl rfl) ?_
    refine al_opd rfl rfl rfl (ao_calld (specFt0_c (l := l) (by exact HLp) (by omega) (by omega) hsp hv) Tryd.call6 rfl rfl) ?_
    first | refine al_opd rfl rfl rfl (ao_as (v := .string _) rfl) ?_ | refine al_opd rfl rfl rfl (ao_as (v := v) rfl) ?_
    refine al_nilT ?_
    refine aw_seq ?_
    refine aw_region ?_
    first | refine al_opd rfl rfl rfl (ao_mv (v := .slice _ _ _) rfl) ?_ | refine al_opd rfl rfl rfl (ao_mv (v := v) rfl) ?_
    refine al_opd rfl rfl rfl (ao_calld (toFile_c (v := v) (l := l) (ha.mono (by exact SMp)) (by omega)) Tryd.call7 rfl rfl) ?_
    first | refine al_opd rfl rfl rfl (ao_as (v := .slice _ _ _) rfl) ?_ | refine al_opd rfl rfl rfl (ao_as (v := v) rfl) ?_
    refine al_nilT ?_
    refine aw_seq ?_
    refine aw_region ?_
    first | refine al_opd rfl rfl rfl (ao_mv (v := .slice _ _ _) rfl) ?_ | refine al_opd rfl rfl rfl (ao_mv (v := v) rfl) ?_
    refine al_opd rfl rfl rfl (ao_calld (implFt0_c (l := l) (by exact HLp) (by omega) (by omega) hsp hv) Tryd.call8 rfl rfl) ?_
    first | refine al_opd rfl rfl rfl (ao_as (v := .string _) rfl) ?_ | refine al_opd rfl rfl rfl (ao_as (v := v) rfl) ?_
    refine al_nilT ?_
    refine aw_seq ?_
    refine aw_seq ?_
    refine aw_region ?_
    first | refine al_opd rfl rfl rfl (ao_mv (v := .string _) rfl) ?_ | refine al_opd rfl rfl rfl (ao_mv (v := v) rfl) ?_
    first | refine al_opd rfl rfl rfl (ao_mv (v := .string _) rfl) ?_ | refine al_opd rfl rfl rfl (ao_mv (v := v) rfl) ?_
    refine al_opd rfl rfl rfl (ao_sneq rfl rfl) ?_
    refine al_nilT ?_
    refine aw_cond rfl (fun h2_ => ?_) (fun h2_ => ?_)
    · try simp only [nrm] at h2_
      first | done | omega | (exfalso; revert h2_; simp; (first | done | omega))
    try simp only [nrm] at h2_
    refine aw_skipT ?_
    refine aw_seq ?_
    refine aw_seq ?_
    refine aw_region ?_
    first | refine al_opd rfl rfl rfl (ao_mv (v := .slice _ _ _) rfl) ?_ | refine al_opd rfl rfl rfl (ao_mv (v := v) rfl) ?_
    first | refine al_opd rfl rfl rfl (ao_mv (v := .slice _ _ _) rfl) ?_ | refine al_opd rfl rfl rfl (ao_mv (v := v) rfl) ?_
    refine al_opd rfl rfl rfl (ao_calld (toFile_c (v := v) (l := l) (ha.mono (by exact SMp)) (by omega)) Tryd.call7 rfl rfl) ?_
    refine al_opd rfl rfl rfl (ao_calld (eqFile_c (l := l) (m := l) (Sl.full spot_len (by exact HLp) rfl rfl rfl) (Sl.full spot_len (by exact HLp) rfl rfl rfl) (by omega)) Tryd.call9 rfl rfl) ?_
    refine al_opd rfl rfl rfl (ao_not rfl) ?_
    refine al_nilT ?_
    refine aw_cond rfl (fun h3_ => ?_) (fun h3_ => ?_)
    · try simp only [nrm] at h3_
      first | done | omega | (exfalso; revert h3_; simp; (first | done | omega))
    try simp only [nrm] at h3_
    refine aw_skipT ?_
    refine aw_seq ?_
    refine aw_region ?_
    refine al_opd rfl rfl rfl (ao_as (v := .bool _) rfl) ?_
    refine al_nilT ?_
    refine aw_ret ?_
    refine ends1 rfl (rv_tmp (v := .bool _) rfl) ?_
    exact ⟨by first | rfl | (simp [*]; (first | done | fail)), by exact SMp⟩

theorem lawFt_c {v : Value} {l : List Spot} {H : AHeap} (ha : Sl H spot 2 v l) (hl : l.length ≤ 9223372036854775807) (hsp : wfSpots l) : ACd Tryd.prog 3 [v] H (.bool true) H := by
  by_cases hv : plainF l
  · exact lawFt1_c ha hl hsp hv
  · exact lawFt0_c ha hl hsp hv

end Go.Proofs.YtlcfmbaeaieomaaDoor
