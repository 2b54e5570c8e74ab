/- Contracts of the program's functions over abstract heaps. -/
import Derived.Test.YtdcmjbaahcipoaaTab
namespace Go.Proofs.Ytdcmjbaahcipoaa
open Go Go.AW Go.Proofs
set_option linter.unusedVariables false
set_option linter.unusedSimpArgs false
set_option maxRecDepth 100000
set_option maxHeartbeats 2000000

-- laws.markInt16S
theorem mark_i16_c {l : List Int} {pb c : Nat} {k : Int} {H : AHeap} (hp : H.blk pb = some (.cells (fl i16 l) 1)) (hl : l.length ≤ 4194304) (hk : 0 ≤ k ∧ k ≤ 16777216) : ACd Try.prog 28 [.slice (some ⟨pb, 0, none⟩) l.length c, .int .i64 k] H (.int .i64 (k + l.length)) (H.set pb (.cells (fl i16 (mk16 k l.length)) 1)) := by
  refine ac_gc1 (fun β => .int _ _) (vrl_fl i16_plain _) ⟨_, hp⟩ (ac_body Try.func28 rfl Try.ntmps28 rfl ?_)
  refine aw_seq ?_
  refine aw_region ?_
  refine al_opd rfl rfl rfl (ao_as (v := .int _ _) rfl) ?_
  refine al_nilT ?_
  refine aw_seq ?_
  refine aw_seq ?_
  refine aw_region ?_
  refine al_opd rfl rfl rfl (ao_as (v := .int _ _) rfl) ?_
  refine al_nilT ?_
  refine aw_block ?_
  refine aw_loop (fun (gk : Nat) (fr : AFr) (G : AHeap) => ∃ get : Nat → Value, fr = ⟨20, get⟩ ∧ (∃ (i : Nat) (z : List Int), i ≤ l.length ∧ gk = l.length - i ∧ z.length = l.length ∧ z.take i = (mk16 k l.length).take i ∧ G = H.set pb (.cells (fl i16 z) 1) ∧ get 0 = .slice (some ⟨pb, 0, none⟩) l.length c ∧ get 1 = .int .i64 (k + i) ∧ get 5 = .int .i64 i)) (l.length) ⟨_, rfl, ?_⟩ ?_
  · exact ⟨0, l, Nat.zero_le _, rfl, rfl, by simp, (set_self hp).symm, rfl, by (first | rfl | (refine congrArg (Value.int .i64) ?_; omega)), rfl⟩
  · rintro gk fr G ⟨get, rfl, i, z, hi, rfl, hz, hq, rfl, g0, g1, g5⟩
    refine aw_slot (d := 0) (v := .slice (some ⟨pb, 0, none⟩) l.length c) (by first | assumption | rfl) ?_
    refine aw_slot (d := 1) (v := .int .i64 (k + i)) (by first | assumption | rfl) ?_
    refine aw_slot (d := 5) (v := .int .i64 i) (by first | assumption | rfl) ?_
    refine aw_seq ?_
    refine aw_seq ?_
    refine aw_region ?_
    refine al_opd rfl rfl rfl (ao_mv (v := .int _ _) rfl) ?_
    refine al_opd rfl rfl rfl (ao_mv (v := .slice _ _ _) rfl) ?_
    first | refine al_opd rfl rfl rfl (ao_lenS Try.underlying23 (by rfl)) ?_ | refine al_opd rfl rfl rfl (ao_lenN Try.underlying23 (by rfl)) ?_
    refine al_opd rfl rfl rfl (ao_lss rfl rfl) ?_
    refine al_nilT ?_
    refine aw_cond rfl (fun h1_ => ?_) (fun h1_ => ?_)
    · try simp only [nrm] at h1_
      refine aw_skipT ?_
      refine aw_seq ?_
      refine aw_block ?_
      refine aw_seq ?_
      refine aw_region ?_
      refine al_opd rfl rfl rfl (ao_mv (v := .slice _ _ _) rfl) ?_
      refine al_opd rfl rfl rfl (ao_mv (v := .int _ _) rfl) ?_
      refine al_opd rfl rfl rfl (ao_mv (v := .int _ _) rfl) ?_
      first | refine al_opd rfl rfl rfl ((ao_conv ⟨_, Try.underlying3⟩ Try.underlying22 rfl).val (nw_i16 BDp BDp)) ?_ | refine al_opd rfl rfl rfl (ao_conv ⟨_, Try.underlying3⟩ Try.underlying22 rfl) ?_
      first | refine al_opd rfl rfl rfl (ao_indexAddrS Try.underlying23 Try.sizeOf22 rfl rfl (by exact IXp) (by exact IXp)) ?_
      refine al_opd rfl rfl rfl ((ao_store1 (v := .int _ _) Try.sizeOf22 (by rfl) (by rfl) (by exact HLp) (by rfl) (by (first | (rw [fl_len i16_len]; simp; omega) | (simp only [List.length_set]; rw [fl_len i16_len]; simp; omega)))).to (SetR.eq (by exact SRp))) ?_
      refine al_nilT ?_
      refine aw_region ?_
      refine al_opd rfl rfl rfl (ao_mv (v := .int _ _) rfl) ?_
      first | refine al_opd rfl rfl rfl ((ao_add rfl rfl).val (nw_i64 BDp BDp)) ?_ | refine al_opd rfl rfl rfl (ao_add rfl rfl) ?_
      refine al_opd rfl rfl rfl (ao_as (v := .int _ _) rfl) ?_
      refine al_nilB ?_
      refine thenA_n ?_
      refine aw_region ?_
      refine al_opd rfl rfl rfl (ao_mv (v := .int _ _) rfl) ?_
      first | refine al_opd rfl rfl rfl ((ao_add rfl rfl).val (nw_i64 BDp BDp)) ?_ | refine al_opd rfl rfl rfl (ao_add rfl rfl) ?_
      refine al_opd rfl rfl rfl (ao_as (v := .int _ _) rfl) ?_
      refine al_nilT ?_
      exact ⟨_, by omega, _, rfl, i + 1, z.set i (IntKind.i16.wrap (k + i)), by omega, rfl, by simp [hz], take_setz hq (mk16_at (by omega)) (by omega), congrArg (fun c => H.set pb (.cells c 1)) (fl_setz (j := 0) i16_len _ (get_some (show i < z.length by omega)) (by decide) (by rfl)), rfl, by (first | rfl | (refine congrArg (Value.int .i64) ?_; omega)), by rfl⟩
    · try simp only [nrm] at h1_
      refine aw_exit ?_
      refine thenA_x ?_
      refine thenA_x ?_
      refine blockA_hit ?_
      refine thenA_n ?_
      refine aw_seq ?_
      refine aw_region ?_
      refine al_opd rfl rfl rfl (ao_mv (v := .int _ _) rfl) ?_
      refine al_opd rfl rfl rfl (ao_as (v := .int _ _) rfl) ?_
      refine al_nilT ?_
      refine aw_ret ?_
      refine ends1 rfl (rv_tmp (v := .int _ _) rfl) ?_
      obtain rfl : i = l.length := by omega
      rw [take_all hq (by omega) (by rw [hz, mk16_len])]
      exact ⟨rfl, Same.refl _ _⟩

-- laws.markHoldS
theorem mark_hold_c {l : List Hold} {pb c : Nat} {k : Int} {H : AHeap} (hp : H.blk pb = some (.cells (fl hold l) 2)) (hl : l.length ≤ 4194304) (hk : 0 ≤ k ∧ k ≤ 16777216) : ACd Try.prog 17 [.slice (some ⟨pb, 0, none⟩) l.length c, .int .i64 k] H (.int .i64 (k + 2 * l.length)) (H.set pb (.cells (fl hold (mkHold k l.length)) 2)) := by
  refine ac_gc1 (fun β => .int _ _) (vrl_fl hold_plain _) ⟨_, hp⟩ (ac_body Try.func17 rfl Try.ntmps17 rfl ?_)
  refine aw_seq ?_
  refine aw_region ?_
  refine al_opd rfl rfl rfl (ao_as (v := .int _ _) rfl) ?_
  refine al_nilT ?_
  refine aw_seq ?_
  refine aw_seq ?_
  refine aw_region ?_
  refine al_opd rfl rfl rfl (ao_as (v := .int _ _) rfl) ?_
  refine al_nilT ?_
  refine aw_block ?_
  refine aw_loop (fun (gk : Nat) (fr : AFr) (G : AHeap) => ∃ get : Nat → Value, fr = ⟨29, get⟩ ∧ (∃ (i : Nat) (z : List Hold), i ≤ l.length ∧ gk = l.length - i ∧ z.length = l.length ∧ z.take i = (mkHold k l.length).take i ∧ G = H.set pb (.cells (fl hold z) 2) ∧ get 0 = .slice (some ⟨pb, 0, none⟩) l.length c ∧ get 1 = .int .i64 (k + 2 * i) ∧ get 5 = .int .i64 i)) (l.length) ⟨_, rfl, ?_⟩ ?_
  · exact ⟨0, l, Nat.zero_le _, rfl, rfl, by simp, (set_self hp).symm, rfl, by (first | rfl | (refine congrArg (Value.int .i64) ?_; omega)), rfl⟩
  · rintro gk fr G ⟨get, rfl, i, z, hi, rfl, hz, hq, rfl, g0, g1, g5⟩
    refine aw_slot (d := 0) (v := .slice (some ⟨pb, 0, none⟩) l.length c) (by first | assumption | rfl) ?_
    refine aw_slot (d := 1) (v := .int .i64 (k + 2 * i)) (by first | assumption | rfl) ?_
    refine aw_slot (d := 5) (v := .int .i64 i) (by first | assumption | rfl) ?_
    refine aw_seq ?_
    refine aw_seq ?_
    refine aw_region ?_
    refine al_opd rfl rfl rfl (ao_mv (v := .int _ _) rfl) ?_
    refine al_opd rfl rfl rfl (ao_mv (v := .slice _ _ _) rfl) ?_
    first | refine al_opd rfl rfl rfl (ao_lenS Try.underlying36 (by rfl)) ?_ | refine al_opd rfl rfl rfl (ao_lenN Try.underlying36 (by rfl)) ?_
    refine al_opd rfl rfl rfl (ao_lss rfl rfl) ?_
    refine al_nilT ?_
    refine aw_cond rfl (fun h1_ => ?_) (fun h1_ => ?_)
    · try simp only [nrm] at h1_
      refine aw_skipT ?_
      refine aw_seq ?_
      refine aw_block ?_
      refine aw_seq ?_
      refine aw_region ?_
      refine al_opd rfl rfl rfl (ao_mv (v := .slice _ _ _) rfl) ?_
      refine al_opd rfl rfl rfl (ao_mv (v := .int _ _) rfl) ?_
      refine al_opd rfl rfl rfl (ao_mv (v := .int _ _) rfl) ?_
      first | refine al_opd rfl rfl rfl ((ao_conv ⟨_, Try.underlying3⟩ Try.underlying22 rfl).val (nw_i16 BDp BDp)) ?_ | refine al_opd rfl rfl rfl (ao_conv ⟨_, Try.underlying3⟩ Try.underlying22 rfl) ?_
      first | refine al_opd rfl rfl rfl (ao_indexAddrS Try.underlying36 Try.sizeOf54 rfl rfl (by exact IXp) (by exact IXp)) ?_
      refine al_opd rfl rfl rfl (ao_fieldAddr fo_54_0 rfl) ?_
      refine al_opd rfl rfl rfl ((ao_store1 (v := .int _ _) Try.sizeOf22 (by rfl) (by rfl) (by exact HLp) (by rfl) (by (first | (rw [fl_len hold_len]; simp; omega) | (simp only [List.length_set]; rw [fl_len hold_len]; simp; omega)))).to (SetR.eq (by exact SRp))) ?_
      refine al_nilT ?_
      refine aw_seq ?_
      refine aw_region ?_
      refine al_opd rfl rfl rfl (ao_mv (v := .int _ _) rfl) ?_
      first | refine al_opd rfl rfl rfl ((ao_add rfl rfl).val (nw_i64 BDp BDp)) ?_ | refine al_opd rfl rfl rfl (ao_add rfl rfl) ?_
      refine al_opd rfl rfl rfl (ao_as (v := .int _ _) rfl) ?_
      refine al_nilT ?_
      refine aw_seq ?_
      refine aw_region ?_
      refine al_opd rfl rfl rfl (ao_mv (v := .slice _ _ _) rfl) ?_
      refine al_opd rfl rfl rfl (ao_mv (v := .int _ _) rfl) ?_
      refine al_opd rfl rfl rfl (ao_mv (v := .int _ _) rfl) ?_
      first | refine al_opd rfl rfl rfl ((ao_conv ⟨_, Try.underlying3⟩ Try.underlying52 rfl).val (nw_i8 BDp BDp)) ?_ | refine al_opd rfl rfl rfl (ao_conv ⟨_, Try.underlying3⟩ Try.underlying52 rfl) ?_
      first | refine al_opd rfl rfl rfl (ao_indexAddrS Try.underlying36 Try.sizeOf54 rfl rfl (by exact IXp) (by exact IXp)) ?_
      refine al_opd rfl rfl rfl (ao_fieldAddr fo_54_1 rfl) ?_
      refine al_opd rfl rfl rfl ((ao_store1 (v := .int _ _) Try.sizeOf52 (by rfl) (by rfl) (by exact HLp) (by rfl) (by (first | (rw [fl_len hold_len]; simp; omega) | (simp only [List.length_set]; rw [fl_len hold_len]; simp; omega)))).to (SetR.eq (by exact SRp))) ?_
      refine al_nilT ?_
      refine aw_region ?_
      refine al_opd rfl rfl rfl (ao_mv (v := .int _ _) rfl) ?_
      first | refine al_opd rfl rfl rfl ((ao_add rfl rfl).val (nw_i64 BDp BDp)) ?_ | refine al_opd rfl rfl rfl (ao_add rfl rfl) ?_
      refine al_opd rfl rfl rfl (ao_as (v := .int _ _) rfl) ?_
      refine al_nilB ?_
      refine thenA_n ?_
      refine aw_region ?_
      refine al_opd rfl rfl rfl (ao_mv (v := .int _ _) rfl) ?_
      first | refine al_opd rfl rfl rfl ((ao_add rfl rfl).val (nw_i64 BDp BDp)) ?_ | refine al_opd rfl rfl rfl (ao_add rfl rfl) ?_
      refine al_opd rfl rfl rfl (ao_as (v := .int _ _) rfl) ?_
      refine al_nilT ?_
      exact ⟨_, by omega, _, rfl, i + 1, z.set i ⟨IntKind.i16.wrap (k + 2 * i), IntKind.i8.wrap (k + 2 * i + 1)⟩, by omega, rfl, by simp [hz], take_setz hq (mkHold_at (by omega)) (by omega), congrArg (fun c => H.set pb (.cells c 2)) (hold_set2 (by omega)), rfl, by (first | rfl | (refine congrArg (Value.int .i64) ?_; omega)), by rfl⟩
    · try simp only [nrm] at h1_
      refine aw_exit ?_
      refine thenA_x ?_
      refine thenA_x ?_
      refine blockA_hit ?_
      refine thenA_n ?_
      refine aw_seq ?_
      refine aw_region ?_
      refine al_opd rfl rfl rfl (ao_mv (v := .int _ _) rfl) ?_
      refine al_opd rfl rfl rfl (ao_as (v := .int _ _) rfl) ?_
      refine al_nilT ?_
      refine aw_ret ?_
      refine ends1 rfl (rv_tmp (v := .int _ _) rfl) ?_
      obtain rfl : i = l.length := by omega
      rw [take_all hq (by omega) (by rw [hz, mkHold_len])]
      exact ⟨rfl, Same.refl _ _⟩

-- laws.markHoldS
theorem mark0_hold_c {k : Int} {H : AHeap} : ACd Try.prog 17 [.slice none 0 0, .int .i64 k] H (.int .i64 k) (H) := by
  refine ac_gc0 (fun β => VR.plainT β (by first | rfl | simp [plainT, plainV, plain1])) (ac_body Try.func17 rfl Try.ntmps17 rfl ?_)
  refine aw_seq ?_
  refine aw_region ?_
  refine al_opd rfl rfl rfl (ao_as (v := .int _ _) rfl) ?_
  refine al_nilT ?_
  refine aw_seq ?_
  refine aw_seq ?_
  refine aw_region ?_
  refine al_opd rfl rfl rfl (ao_as (v := .int _ _) rfl) ?_
  refine al_nilT ?_
  refine aw_block ?_
  refine aw_loop (fun (gk : Nat) (fr : AFr) (G : AHeap) => ∃ get : Nat → Value, fr = ⟨29, get⟩ ∧ (gk = 0 ∧ G = H ∧ get 0 = .slice none 0 0 ∧ get 1 = .int .i64 k ∧ get 5 = .int .i64 0)) (0) ⟨_, rfl, ?_⟩ ?_
  · exact ⟨rfl, rfl, rfl, rfl, rfl⟩
  · rintro gk fr G ⟨get, rfl, rfl, rfl, g0, g1, g5⟩
    refine aw_slot (d := 0) (v := .slice none 0 0) (by first | assumption | rfl) ?_
    refine aw_slot (d := 1) (v := .int .i64 k) (by first | assumption | rfl) ?_
    refine aw_slot (d := 5) (v := .int .i64 0) (by first | assumption | rfl) ?_
    refine aw_seq ?_
    refine aw_seq ?_
    refine aw_region ?_
    refine al_opd rfl rfl rfl (ao_mv (v := .int _ _) rfl) ?_
    refine al_opd rfl rfl rfl (ao_mv (v := .slice _ _ _) rfl) ?_
    first | refine al_opd rfl rfl rfl (ao_lenS Try.underlying36 (by rfl)) ?_ | refine al_opd rfl rfl rfl (ao_lenN Try.underlying36 (by rfl)) ?_
    refine al_opd rfl rfl rfl (ao_lss rfl rfl) ?_
    refine al_nilT ?_
    refine aw_cond rfl (fun h1_ => ?_) (fun h1_ => ?_)
    · try simp only [nrm] at h1_
      first | done | omega | (exfalso; revert h1_; simp; (first | done | omega))
    try simp only [nrm] at h1_
    refine aw_exit ?_
    refine thenA_x ?_
    refine thenA_x ?_
    refine blockA_hit ?_
    refine thenA_n ?_
    refine aw_seq ?_
    refine aw_region ?_
    refine al_opd rfl rfl rfl (ao_mv (v := .int _ _) rfl) ?_
    refine al_opd rfl rfl rfl (ao_as (v := .int _ _) rfl) ?_
    refine al_nilT ?_
    refine aw_ret ?_
    refine ends1 rfl (rv_tmp (v := .int _ _) rfl) ?_
    exact ⟨by first | rfl | (simp [*]; (first | done | fail)), by exact SMp⟩

-- laws.heldHoldS
theorem held_hold_c {v : Value} {n : Nat} {k : Int} {H : AHeap} (ha : Sl H hold 2 v (mkHold k n)) (hl : n ≤ 4194304) (hk : 0 ≤ k ∧ k ≤ 16777216) : ACd Try.prog 18 [v, .int .i64 k] H (.int .i64 (k + 2 * n)) (H) := by
  have hln : (mkHold k n).length = n := mkHold_len k n
  refine ac_gc0 (fun β => VR.plainT β (by first | rfl | simp [plainT, plainV, plain1])) (ac_body Try.func18 rfl Try.ntmps18 rfl ?_)
  refine aw_seq ?_
  refine aw_region ?_
  refine al_opd rfl rfl rfl (ao_as (v := .int _ _) rfl) ?_
  refine al_nilT ?_
  refine aw_seq ?_
  refine aw_seq ?_
  refine aw_region ?_
  refine al_opd rfl rfl rfl (ao_as (v := .int _ _) rfl) ?_
  refine al_nilT ?_
  refine aw_block ?_
  refine aw_loop (fun (gk : Nat) (fr : AFr) (G : AHeap) => ∃ get : Nat → Value, fr = ⟨33, get⟩ ∧ (∃ i : Nat, i ≤ n ∧ gk = n - i ∧ G = H ∧ get 0 = v ∧ get 1 = .int .i64 (k + 2 * i) ∧ get 5 = .int .i64 i)) (n) ⟨_, rfl, ?_⟩ ?_
  · exact ⟨0, Nat.zero_le _, rfl, rfl, rfl, by (first | rfl | (refine congrArg (Value.int .i64) ?_; omega)), rfl⟩
  · rintro gk fr G ⟨get, rfl, i, hi, rfl, rfl, g0, g1, g5⟩
    refine aw_slot (d := 0) (v := v) (by first | assumption | rfl) ?_
    refine aw_slot (d := 1) (v := .int .i64 (k + 2 * i)) (by first | assumption | rfl) ?_
    refine aw_slot (d := 5) (v := .int .i64 i) (by first | assumption | rfl) ?_
    refine aw_seq ?_
    refine aw_seq ?_
    refine aw_region ?_
    refine al_opd rfl rfl rfl (ao_mv (v := .int _ _) rfl) ?_
    first | refine al_opd rfl rfl rfl (ao_mv (v := .slice _ _ _) rfl) ?_ | refine al_opd rfl rfl rfl (ao_mv (v := v) rfl) ?_
    first | refine al_opd rfl rfl rfl (ao_lenS Try.underlying36 (by rfl)) ?_ | refine al_opd rfl rfl rfl (ao_lenN Try.underlying36 (by rfl)) ?_ | refine al_opd rfl rfl rfl (ao_lenV Try.underlying36 rfl ha) ?_
    refine al_opd rfl rfl rfl (ao_lss rfl rfl) ?_
    refine al_nilT ?_
    refine aw_cond rfl (fun h1_ => ?_) (fun h1_ => ?_)
    · try simp only [nrm] at h1_
      obtain ⟨x, hx⟩ := get_lt (show i < (mkHold k n).length by omega)
      obtain rfl := mkHold_get hx
      refine aw_skipT ?_
      refine aw_seq ?_
      refine aw_block ?_
      refine aw_seq ?_
      refine aw_seq ?_
      refine aw_region ?_
      first | refine al_opd rfl rfl rfl (ao_mv (v := .slice _ _ _) rfl) ?_ | refine al_opd rfl rfl rfl (ao_mv (v := v) rfl) ?_
      refine al_opd rfl rfl rfl (ao_mv (v := .int _ _) rfl) ?_
      first | refine al_opd rfl rfl rfl (ao_indexAddrS Try.underlying36 Try.sizeOf54 rfl rfl (by exact IXp) (by exact IXp)) ?_ | refine al_opd rfl rfl rfl (ao_indexV Try.underlying36 Try.sizeOf54 rfl rfl ha (by exact IXp) (by exact IXp)) ?_
      refine al_opd rfl rfl rfl (ao_fieldAddr fo_54_0 rfl) ?_
      first | refine al_opd rfl rfl rfl (ao_load (v := .int _ _) Try.isAgg22 (by rfl) (by exact HLp) (by rfl) (by exact RFp)) ?_ | refine al_opd rfl rfl rfl (ao_loadV (j := 0) (u := .int _ _) Try.isAgg22 ha rfl rfl (by assumption) rfl) ?_ | refine al_opd rfl rfl rfl (ao_loadV (j := 1) (u := .int _ _) Try.isAgg22 ha rfl rfl (by assumption) rfl) ?_ | refine al_opd rfl rfl rfl (ao_loadV (i := 0) (j := 0) (u := .int _ _) Try.isAgg22 ha rfl rfl (by assumption) rfl) ?_ | refine al_opd rfl rfl rfl (ao_loadV (i := 0) (j := 1) (u := .int _ _) Try.isAgg22 ha rfl rfl (by assumption) rfl) ?_
      refine al_opd rfl rfl rfl (ao_mv (v := .int _ _) rfl) ?_
      first | refine al_opd rfl rfl rfl ((ao_conv ⟨_, Try.underlying3⟩ Try.underlying22 rfl).val (nw_i16 BDp BDp)) ?_ | refine al_opd rfl rfl rfl (ao_conv ⟨_, Try.underlying3⟩ Try.underlying22 rfl) ?_
      refine al_opd rfl rfl rfl (ao_neq rfl rfl) ?_
      refine al_nilT ?_
      refine aw_cond rfl (fun h2_ => ?_) (fun h2_ => ?_)
      · try simp only [nrm] at h2_
        first | done | omega | (exfalso; revert h2_; simp; (first | done | omega))
      try simp only [nrm] at h2_
      refine aw_skipT ?_
      refine aw_seq ?_
      refine aw_region ?_
      refine al_opd rfl rfl rfl (ao_mv (v := .int _ _) rfl) ?_
      first | refine al_opd rfl rfl rfl ((ao_add rfl rfl).val (nw_i64 BDp BDp)) ?_ | refine al_opd rfl rfl rfl (ao_add rfl rfl) ?_
      refine al_opd rfl rfl rfl (ao_as (v := .int _ _) rfl) ?_
      refine al_nilT ?_
      refine aw_seq ?_
      refine aw_seq ?_
      refine aw_region ?_
      first | refine al_opd rfl rfl rfl (ao_mv (v := .slice _ _ _) rfl) ?_ | refine al_opd rfl rfl rfl (ao_mv (v := v) rfl) ?_
      refine al_opd rfl rfl rfl (ao_mv (v := .int _ _) rfl) ?_
      first | refine al_opd rfl rfl rfl (ao_indexAddrS Try.underlying36 Try.sizeOf54 rfl rfl (by exact IXp) (by exact IXp)) ?_ | refine al_opd rfl rfl rfl (ao_indexV Try.underlying36 Try.sizeOf54 rfl rfl ha (by exact IXp) (by exact IXp)) ?_
      refine al_opd rfl rfl rfl (ao_fieldAddr fo_54_1 rfl) ?_
      first | refine al_opd rfl rfl rfl (ao_load (v := .int _ _) Try.isAgg52 (by rfl) (by exact HLp) (by rfl) (by exact RFp)) ?_ | refine al_opd rfl rfl rfl (ao_loadV (j := 0) (u := .int _ _) Try.isAgg52 ha rfl rfl (by assumption) rfl) ?_ | refine al_opd rfl rfl rfl (ao_loadV (j := 1) (u := .int _ _) Try.isAgg52 ha rfl rfl (by assumption) rfl) ?_ | refine al_opd rfl rfl rfl (ao_loadV (i := 0) (j := 0) (u := .int _ _) Try.isAgg52 ha rfl rfl (by assumption) rfl) ?_ | refine al_opd rfl rfl rfl (ao_loadV (i := 0) (j := 1) (u := .int _ _) Try.isAgg52 ha rfl rfl (by assumption) rfl) ?_
      refine al_opd rfl rfl rfl (ao_mv (v := .int _ _) rfl) ?_
      first | refine al_opd rfl rfl rfl ((ao_conv ⟨_, Try.underlying3⟩ Try.underlying52 rfl).val (nw_i8 BDp BDp)) ?_ | refine al_opd rfl rfl rfl (ao_conv ⟨_, Try.underlying3⟩ Try.underlying52 rfl) ?_
      refine al_opd rfl rfl rfl (ao_neq rfl rfl) ?_
      refine al_nilT ?_
      refine aw_cond rfl (fun h3_ => ?_) (fun h3_ => ?_)
      · try simp only [nrm] at h3_
        first | done | omega | (exfalso; revert h3_; simp; (first | done | omega))
      try simp only [nrm] at h3_
      refine aw_skipT ?_
      refine aw_region ?_
      refine al_opd rfl rfl rfl (ao_mv (v := .int _ _) rfl) ?_
      first | refine al_opd rfl rfl rfl ((ao_add rfl rfl).val (nw_i64 BDp BDp)) ?_ | refine al_opd rfl rfl rfl (ao_add rfl rfl) ?_
      refine al_opd rfl rfl rfl (ao_as (v := .int _ _) rfl) ?_
      refine al_nilB ?_
      refine thenA_n ?_
      refine aw_region ?_
      refine al_opd rfl rfl rfl (ao_mv (v := .int _ _) rfl) ?_
      first | refine al_opd rfl rfl rfl ((ao_add rfl rfl).val (nw_i64 BDp BDp)) ?_ | refine al_opd rfl rfl rfl (ao_add rfl rfl) ?_
      refine al_opd rfl rfl rfl (ao_as (v := .int _ _) rfl) ?_
      refine al_nilT ?_
      exact ⟨_, by omega, _, rfl, i + 1, by omega, rfl, rfl, rfl, by (first | rfl | (refine congrArg (Value.int .i64) ?_; omega)), by rfl⟩
    · try simp only [nrm] at h1_
      refine aw_exit ?_
      refine thenA_x ?_
      refine thenA_x ?_
      refine blockA_hit ?_
      refine thenA_n ?_
      refine aw_seq ?_
      refine aw_region ?_
      refine al_opd rfl rfl rfl (ao_mv (v := .int _ _) rfl) ?_
      refine al_opd rfl rfl rfl (ao_as (v := .int _ _) rfl) ?_
      refine al_nilT ?_
      refine aw_ret ?_
      refine ends1 rfl (rv_tmp (v := .int _ _) rfl) ?_
      obtain rfl : i = n := by omega
      exact ⟨rfl, by exact SMp⟩

-- laws.markRope
theorem markRope_c {L : Int} {l : List Int} {pb c : Nat} {k : Int} {H : AHeap} (hp : H.blk pb = some (.cells (fl i16 l) 1)) (hl : l.length ≤ 4194304) (hk : 0 ≤ k ∧ k ≤ 16777216) : ACd Try.prog 10 [.agg #[.int .i16 L, .slice (some ⟨pb, 0, none⟩) l.length c], .int .i64 k] H (.int .i64 (k + l.length)) (H.set pb (.cells (fl i16 (mk16 k l.length)) 1)) := by
  refine ac_gc1 (fun β => .int _ _) (vrl_fl i16_plain _) ⟨_, hp⟩ (ac_body Try.func10 rfl Try.ntmps10 rfl ?_)
  refine aw_seq ?_
  refine aw_region ?_
  refine al_opd rfl rfl rfl (ao_boxa (by rfl)) ?_
  refine al_opd rfl rfl rfl (ao_as (v := .int _ _) rfl) ?_
  refine al_nilT ?_
  refine aw_seq ?_
  refine aw_region ?_
  refine al_opd rfl rfl rfl (ao_fieldAddr fo_27_1 rfl) ?_
  refine al_opd rfl rfl rfl (ao_load (v := .slice _ _ _) Try.isAgg23 (by rfl) (by exact HLp) (by rfl) (by exact RFp)) ?_
  refine al_opd rfl rfl rfl (ao_mv (v := .int _ _) rfl) ?_
  refine al_opd rfl rfl rfl ((ao_calld (mark_i16_c (l := l) (pb := pb) (c := c) (k := k) (by exact HLp) hl hk) Try.call28 rfl rfl).to (SetR.eq (by exact SRp))) ?_
  refine al_opd rfl rfl rfl (ao_as (v := .int _ _) rfl) ?_
  refine al_nilT ?_
  refine aw_seq ?_
  refine aw_region ?_
  refine al_opd rfl rfl rfl (ao_mv (v := .int _ _) rfl) ?_
  refine al_opd rfl rfl rfl (ao_as (v := .int _ _) rfl) ?_
  refine al_nilT ?_
  refine aw_ret ?_
  refine ends1 rfl (rv_tmp (v := .int _ _) rfl) ?_
  exact ⟨by first | rfl | (simp [*]; (first | done | fail)), by exact SMp⟩

end Go.Proofs.Ytdcmjbaahcipoaa
