/- Contracts of the program's functions over abstract heaps. -/
import Derived.Test.YtkjmcolnoehjbaaPts
import Derived.Test.YtkjmcolnoehjbaaLaws
import Derived.Test.YtkjmcolnoehjbaaMark
namespace Go.Proofs.Ytkjmcolnoehjbaa
open Go Go.AW Go.Proofs
set_option linter.unusedVariables false
set_option linter.unusedSimpArgs false
set_option maxRecDepth 100000
set_option maxHeartbeats 2000000

-- laws.eqSpotSS
theorem eqSS_c {v u : Value} {out : List (List Spot)} {H : AHeap} (hv : SS H v out) (hu : SS H u out) (hle : ∀ p ∈ out, p.length ≤ 100) (hlo : out.length ≤ 100) : ACd Try.prog 28 [v, u] H (.bool true) (H) := by
  obtain ⟨vs, hs1, hl1, he1⟩ := hv
  obtain ⟨us, hs2, hl2, he2⟩ := hu
  refine ac_gc0 (fun β => VR.plainT β (by first | rfl | simp [plainT, plainV, plain1])) (ac_body Try.func28 rfl Try.ntmps28 rfl ?_)
  refine aw_seq ?_
  refine aw_region ?_
  refine al_opd rfl rfl rfl (ao_as (v := .bool _) rfl) ?_
  refine al_nilT ?_
  refine aw_seq ?_
  refine aw_seq ?_
  refine aw_region ?_
  first | refine al_opd rfl rfl rfl (ao_mv (v := .slice _ _ _) rfl) ?_ | refine al_opd rfl rfl rfl (ao_mv (v := v) rfl) ?_ | refine al_opd rfl rfl rfl (ao_mv (v := u) rfl) ?_ | refine al_opd rfl rfl rfl (ao_mv (v := x) rfl) ?_ | refine al_opd rfl rfl rfl (ao_mv (v := y) rfl) ?_
  first | refine al_opd rfl rfl rfl (ao_lenS Try.underlying49 (by rfl)) ?_ | refine al_opd rfl rfl rfl (ao_lenN Try.underlying49 (by rfl)) ?_ | refine al_opd rfl rfl rfl (ao_lenV Try.underlying49 rfl hs1) ?_ | refine al_opd rfl rfl rfl (ao_lenV Try.underlying49 rfl hs2) ?_
  first | refine al_opd rfl rfl rfl (ao_mv (v := .slice _ _ _) rfl) ?_ | refine al_opd rfl rfl rfl (ao_mv (v := v) rfl) ?_ | refine al_opd rfl rfl rfl (ao_mv (v := u) rfl) ?_ | refine al_opd rfl rfl rfl (ao_mv (v := x) rfl) ?_ | refine al_opd rfl rfl rfl (ao_mv (v := y) rfl) ?_
  first | refine al_opd rfl rfl rfl (ao_lenS Try.underlying49 (by rfl)) ?_ | refine al_opd rfl rfl rfl (ao_lenN Try.underlying49 (by rfl)) ?_ | refine al_opd rfl rfl rfl (ao_lenV Try.underlying49 rfl hs1) ?_ | refine al_opd rfl rfl rfl (ao_lenV Try.underlying49 rfl hs2) ?_
  refine al_opd rfl rfl rfl (ao_neq rfl rfl) ?_
  refine al_nilT ?_
  refine aw_cond rfl (fun h1_ => ?_) (fun h1_ => ?_)
  · try simp only [decide_eq_true_eq, decide_eq_false_iff_not, Bool.not_eq_true', Bool.not_eq_false', Bool.and_eq_true, Bool.or_eq_true, Bool.and_eq_false_iff, Bool.or_eq_false_iff, beq_iff_eq, bne_iff_ne, beq_eq_false_iff_ne, bne_eq_false_iff_eq, ne_eq, Decidable.not_not, Bool.decide_eq_true] at h1_
    first | done | omega | (exfalso; revert h1_; simp; (first | done | omega))
  · try simp only [decide_eq_true_eq, decide_eq_false_iff_not, Bool.not_eq_true', Bool.not_eq_false', Bool.and_eq_true, Bool.or_eq_true, Bool.and_eq_false_iff, Bool.or_eq_false_iff, beq_iff_eq, bne_iff_ne, beq_eq_false_iff_ne, bne_eq_false_iff_eq, ne_eq, Decidable.not_not, Bool.decide_eq_true] at h1_
    refine aw_skipT ?_
    refine aw_seq ?_
    refine aw_seq ?_
    refine aw_region ?_
    refine al_opd rfl rfl rfl (ao_as (v := .int _ _) rfl) ?_
    refine al_nilT ?_
    refine aw_block ?_
    refine aw_loop (fun (gk : Nat) (fr : AFr) (G : AHeap) => ∃ get : Nat → Value, fr = ⟨27, get⟩ ∧ (∃ i : Nat, i ≤ out.length ∧ gk = out.length - i ∧ G = H ∧ get 0 = v ∧ get 1 = u ∧ get 5 = .int .i64 i)) (out.length) ⟨_, rfl, ?_⟩ ?_
    · exact ⟨0, Nat.zero_le _, rfl, rfl, rfl, rfl, rfl⟩
    · rintro gk fr G ⟨get, rfl, i, hi, rfl, rfl, g0, g1, g5⟩
      refine aw_slot (d := 0) (v := v) (by first | assumption | rfl) ?_
      refine aw_slot (d := 1) (v := u) (by first | assumption | rfl) ?_
      refine aw_slot (d := 5) (v := .int .i64 i) (by first | assumption | rfl) ?_
      refine aw_seq ?_
      refine aw_seq ?_
      refine aw_region ?_
      refine al_opd rfl rfl rfl (ao_mv (v := .int _ _) rfl) ?_
      first | refine al_opd rfl rfl rfl (ao_mv (v := .slice _ _ _) rfl) ?_ | refine al_opd rfl rfl rfl (ao_mv (v := v) rfl) ?_ | refine al_opd rfl rfl rfl (ao_mv (v := u) rfl) ?_ | refine al_opd rfl rfl rfl (ao_mv (v := x) rfl) ?_ | refine al_opd rfl rfl rfl (ao_mv (v := y) rfl) ?_
      first | refine al_opd rfl rfl rfl (ao_lenS Try.underlying49 (by rfl)) ?_ | refine al_opd rfl rfl rfl (ao_lenN Try.underlying49 (by rfl)) ?_ | refine al_opd rfl rfl rfl (ao_lenV Try.underlying49 rfl hs1) ?_ | refine al_opd rfl rfl rfl (ao_lenV Try.underlying49 rfl hs2) ?_
      refine al_opd rfl rfl rfl (ao_lss rfl rfl) ?_
      refine al_nilT ?_
      refine aw_cond rfl (fun h2_ => ?_) (fun h2_ => ?_)
      · try simp only [decide_eq_true_eq, decide_eq_false_iff_not, Bool.not_eq_true', Bool.not_eq_false', Bool.and_eq_true, Bool.or_eq_true, Bool.and_eq_false_iff, Bool.or_eq_false_iff, beq_iff_eq, bne_iff_ne, beq_eq_false_iff_ne, bne_eq_false_iff_eq, ne_eq, Decidable.not_not, Bool.decide_eq_true] at h2_
        obtain ⟨x, hx⟩ := get_lt (show i < vs.length by omega)
        obtain ⟨y, hy⟩ := get_lt (show i < us.length by omega)
        obtain ⟨p, hp⟩ := get_lt (show i < out.length by omega)
        have hpl := hle p (List.mem_of_getElem? hp)
        refine aw_skipT ?_
        refine aw_seq ?_
        refine aw_block ?_
        refine aw_seq ?_
        refine aw_draw (m := 10) mo (by kernel_rfl) rfl (fun _ _ _ h => h) ?_
        first | refine dw_opd rfl rfl rfl (ao_mv (v := .slice _ _ _) rfl) ?_ | refine dw_opd rfl rfl rfl (ao_mv (v := v) rfl) ?_ | refine dw_opd rfl rfl rfl (ao_mv (v := u) rfl) ?_ | refine dw_opd rfl rfl rfl (ao_mv (v := x) rfl) ?_ | refine dw_opd rfl rfl rfl (ao_mv (v := y) rfl) ?_
        refine dw_opd rfl rfl rfl (ao_mv (v := .int _ _) rfl) ?_
        first | refine dw_opd rfl rfl rfl (ao_indexAddrS Try.underlying49 Try.sizeOf40 rfl rfl (by exact IXp) (by exact IXp)) ?_ | refine dw_opd rfl rfl rfl (ao_indexV Try.underlying49 Try.sizeOf40 rfl rfl hs1 (by exact IXp) (by exact IXp)) ?_ | refine dw_opd rfl rfl rfl (ao_indexV Try.underlying49 Try.sizeOf40 rfl rfl hs2 (by exact IXp) (by exact IXp)) ?_
        refine dw_opd rfl rfl rfl (ao_loadV (j := 0) (u := x) Try.isAgg40 hs1 rfl rfl hx rfl) ?_
        first | refine dw_opd rfl rfl rfl (ao_mv (v := .slice _ _ _) rfl) ?_ | refine dw_opd rfl rfl rfl (ao_mv (v := v) rfl) ?_ | refine dw_opd rfl rfl rfl (ao_mv (v := u) rfl) ?_ | refine dw_opd rfl rfl rfl (ao_mv (v := x) rfl) ?_ | refine dw_opd rfl rfl rfl (ao_mv (v := y) rfl) ?_
        refine dw_opd rfl rfl rfl (ao_mv (v := .int _ _) rfl) ?_
        first | refine dw_opd rfl rfl rfl (ao_indexAddrS Try.underlying49 Try.sizeOf40 rfl rfl (by exact IXp) (by exact IXp)) ?_ | refine dw_opd rfl rfl rfl (ao_indexV Try.underlying49 Try.sizeOf40 rfl rfl hs1 (by exact IXp) (by exact IXp)) ?_ | refine dw_opd rfl rfl rfl (ao_indexV Try.underlying49 Try.sizeOf40 rfl rfl hs2 (by exact IXp) (by exact IXp)) ?_
        refine dw_opd rfl rfl rfl (ao_loadV (j := 0) (u := y) Try.isAgg40 hs2 rfl rfl hy rfl) ?_
        refine dw_opd rfl rfl rfl (ao_calld (ACd.val (eqSpotS_c (l := p) (m := p) (he1 i x p hx hp) (he2 i y p hy hp) (by omega)) (congrArg Value.bool (decide_eq_true rfl))) Try.call19 rfl rfl) ?_
        refine dw_opd rfl rfl rfl (ao_not rfl) ?_
        refine dw_end ?_
        refine al_nilT ?_
        refine aw_cond rfl (fun h3_ => ?_) (fun h3_ => ?_)
        · try simp only [decide_eq_true_eq, decide_eq_false_iff_not, Bool.not_eq_true', Bool.not_eq_false', Bool.and_eq_true, Bool.or_eq_true, Bool.and_eq_false_iff, Bool.or_eq_false_iff, beq_iff_eq, bne_iff_ne, beq_eq_false_iff_ne, bne_eq_false_iff_eq, ne_eq, Decidable.not_not, Bool.decide_eq_true] at h3_
          first | done | omega | (exfalso; revert h3_; simp; (first | done | omega))
        · try simp only [decide_eq_true_eq, decide_eq_false_iff_not, Bool.not_eq_true', Bool.not_eq_false', Bool.and_eq_true, Bool.or_eq_true, Bool.and_eq_false_iff, Bool.or_eq_false_iff, beq_iff_eq, bne_iff_ne, beq_eq_false_iff_ne, bne_eq_false_iff_eq, ne_eq, Decidable.not_not, Bool.decide_eq_true] at h3_
          refine aw_skipB ?_
          refine thenA_n ?_
          refine aw_region ?_
          refine al_opd rfl rfl rfl (ao_mv (v := .int _ _) rfl) ?_
          first | refine al_opd rfl rfl rfl ((ao_add rfl rfl).val (nw_i64 BDp BDp)) ?_ | refine al_opd rfl rfl rfl (ao_add rfl rfl) ?_
          refine al_opd rfl rfl rfl (ao_as (v := .int _ _) rfl) ?_
          refine al_nilT ?_
          exact ⟨_, by omega, _, rfl, i + 1, by omega, rfl, rfl, rfl, rfl, by rfl⟩
      · try simp only [decide_eq_true_eq, decide_eq_false_iff_not, Bool.not_eq_true', Bool.not_eq_false', Bool.and_eq_true, Bool.or_eq_true, Bool.and_eq_false_iff, Bool.or_eq_false_iff, beq_iff_eq, bne_iff_ne, beq_eq_false_iff_ne, bne_eq_false_iff_eq, ne_eq, Decidable.not_not, Bool.decide_eq_true] at h2_
        refine aw_exit ?_
        refine thenA_x ?_
        refine thenA_x ?_
        refine blockA_hit ?_
        refine thenA_n ?_
        refine aw_seq ?_
        refine aw_region ?_
        refine al_opd rfl rfl rfl (ao_as (v := .bool _) rfl) ?_
        refine al_nilT ?_
        refine aw_ret ?_
        refine ends1 rfl (rv_tmp (v := .bool _) rfl) ?_
        exact ⟨by first | rfl | (simp [*]; (first | done | fail)), by exact SMp⟩

-- laws.markSpotSS
theorem markSS_c {n ob c : Nat} {bs : List Nat} {out : List (List Spot)} {k : Int} {H : AHeap} (hP : PH n H bs out) (hob : H.blk ob = some (.cells (slC bs out) 1)) (hno : ¬ ob ∈ bs) (hle : ∀ p ∈ out, p.length ≤ 100) (hlo : out.length ≤ 100) (hfl : out.flatten.length ≤ 100) (hk : 0 ≤ k ∧ k ≤ 10000) : AC Try.prog 29 [.slice (some ⟨ob, 0, none⟩) out.length c, .int .i64 k] H (fun v' H' => v' = .int .i64 (kOf out k out.length) ∧ Marked H H' n bs out k out.length) := by
  have hbl := hP.len
  refine ac_body Try.func29 rfl Try.ntmps29 rfl ?_
  refine aw_seq ?_
  refine aw_region ?_
  refine al_opd rfl rfl rfl (ao_as (v := .int _ _) rfl) ?_
  refine al_nilT ?_
  refine aw_seq ?_
  refine aw_seq ?_
  refine aw_region ?_
  refine al_opd rfl rfl rfl (ao_as (v := .int _ _) rfl) ?_
  refine al_nilT ?_
  refine aw_block ?_
  refine aw_loop (fun (gk : Nat) (fr : AFr) (G : AHeap) => ∃ get : Nat → Value, fr = ⟨19, get⟩ ∧ (∃ i : Nat, i ≤ out.length ∧ gk = out.length - i ∧ Marked H G n bs out k i ∧ get 0 = .slice (some ⟨ob, 0, none⟩) out.length c ∧ get 1 = .int .i64 (kOf out k i) ∧ get 5 = .int .i64 i)) (out.length) ⟨_, rfl, ?_⟩ ?_
  · exact ⟨0, Nat.zero_le _, rfl, Marked.start k hP, rfl, by rw [kOf_zero]; rfl, rfl⟩
  · rintro gk fr G ⟨get, rfl, i, hi, rfl, hM, g0, g1, g5⟩
    have hkl := kOf_le (out := out) k i
    have hoG : G.blk ob = some (.cells (slC bs out) 1) := (hM.2.1 ob hno).trans hob
    have hs1 : Sl G oneV 1 (.slice (some ⟨ob, 0, none⟩) out.length c) (slC bs out) := Sl.full oneV_len hoG rfl (fl_one _).symm (slC_len hbl).symm
    refine aw_slot (d := 0) (v := .slice (some ⟨ob, 0, none⟩) out.length c) (by first | assumption | rfl) ?_
    refine aw_slot (d := 1) (v := .int .i64 (kOf out k i)) (by first | assumption | rfl) ?_
    refine aw_slot (d := 5) (v := .int .i64 i) (by first | assumption | rfl) ?_
    refine aw_seq ?_
    refine aw_seq ?_
    refine aw_region ?_
    refine al_opd rfl rfl rfl (ao_mv (v := .int _ _) rfl) ?_
    first | refine al_opd rfl rfl rfl (ao_mv (v := .slice _ _ _) rfl) ?_ | refine al_opd rfl rfl rfl (ao_mv (v := slV b p) rfl) ?_
    first | refine al_opd rfl rfl rfl (ao_lenS Try.underlying49 (by rfl)) ?_ | refine al_opd rfl rfl rfl (ao_lenN Try.underlying49 (by rfl)) ?_ | refine al_opd rfl rfl rfl (ao_lenV Try.underlying49 rfl hs1) ?_
    refine al_opd rfl rfl rfl (ao_lss rfl rfl) ?_
    refine al_nilT ?_
    refine aw_cond rfl (fun h1_ => ?_) (fun h1_ => ?_)
    · try simp only [decide_eq_true_eq, decide_eq_false_iff_not, Bool.not_eq_true', Bool.not_eq_false', Bool.and_eq_true, Bool.or_eq_true, Bool.and_eq_false_iff, Bool.or_eq_false_iff, beq_iff_eq, bne_iff_ne, beq_eq_false_iff_ne, bne_eq_false_iff_eq, ne_eq, Decidable.not_not, Bool.decide_eq_true] at h1_
      obtain ⟨p, hp⟩ := get_lt (show i < out.length by omega)
      obtain ⟨b, hb⟩ := get_lt (show i < bs.length by omega)
      have hx := slC_at hb hp
      have hpl := hle p (List.mem_of_getElem? hp)
      refine aw_skipT ?_
      refine aw_seq ?_
      refine aw_block ?_
      refine aw_region ?_
      first | refine al_opd rfl rfl rfl (ao_mv (v := .slice _ _ _) rfl) ?_ | refine al_opd rfl rfl rfl (ao_mv (v := slV b p) rfl) ?_
      refine al_opd rfl rfl rfl (ao_mv (v := .int _ _) rfl) ?_
      first | refine al_opd rfl rfl rfl (ao_indexAddrS Try.underlying49 Try.sizeOf40 rfl rfl (by exact IXp) (by exact IXp)) ?_ | refine al_opd rfl rfl rfl (ao_indexV Try.underlying49 Try.sizeOf40 rfl rfl hs1 (by exact IXp) (by exact IXp)) ?_
      refine al_opd rfl rfl rfl (ao_loadV (j := 0) (u := slV b p) Try.isAgg40 hs1 rfl rfl hx rfl) ?_
      refine al_opd rfl rfl rfl (ao_mv (v := .int _ _) rfl) ?_
      refine al_opd rfl rfl rfl ((ao_calld (mark_spot_c (l := p) (pb := b) (c := p.length + 1) (k := kOf out k i) (hM.at_ hb hp) (by omega) (by omega)) Try.call20 rfl rfl).to (SetR.eq (by exact SRp))) ?_
      refine al_opd rfl rfl rfl (ao_as (v := .int _ _) rfl) ?_
      refine al_nilB ?_
      refine thenA_n ?_
      refine aw_region ?_
      refine al_opd rfl rfl rfl (ao_mv (v := .int _ _) rfl) ?_
      first | refine al_opd rfl rfl rfl ((ao_add rfl rfl).val (nw_i64 BDp BDp)) ?_ | refine al_opd rfl rfl rfl (ao_add rfl rfl) ?_
      refine al_opd rfl rfl rfl (ao_as (v := .int _ _) rfl) ?_
      refine al_nilT ?_
      exact ⟨_, by omega, _, rfl, i + 1, by omega, rfl, hM.step hb hp, rfl, by rw [kOf_succ hp]; rfl, by rfl⟩
    · try simp only [decide_eq_true_eq, decide_eq_false_iff_not, Bool.not_eq_true', Bool.not_eq_false', Bool.and_eq_true, Bool.or_eq_true, Bool.and_eq_false_iff, Bool.or_eq_false_iff, beq_iff_eq, bne_iff_ne, beq_eq_false_iff_ne, bne_eq_false_iff_eq, ne_eq, Decidable.not_not, Bool.decide_eq_true] at h1_
      obtain rfl : i = out.length := by omega
      refine aw_exit ?_
      refine thenA_x ?_
      refine thenA_x ?_
      refine blockA_hit ?_
      refine thenA_n ?_
      refine aw_seq ?_
      refine aw_region ?_
      refine al_opd rfl rfl rfl (ao_mv (v := .int _ _) rfl) ?_
      refine al_opd rfl rfl rfl (ao_as (v := .int _ _) rfl) ?_
      refine al_nilT ?_
      refine aw_ret ?_
      refine ends1 rfl (rv_tmp (v := .int _ _) rfl) ?_
      exact ⟨rfl, hM⟩

-- laws.heldSpotSS
theorem heldSS_c {v : Value} {out : List (List Spot)} {k : Int} {H : AHeap} (hv : SS H v (mkI out k out.length)) (hle : ∀ p ∈ out, p.length ≤ 100) (hlo : out.length ≤ 100) (hfl : out.flatten.length ≤ 100) (hk : 0 ≤ k ∧ k ≤ 10000) : ACd Try.prog 30 [v, .int .i64 k] H (.int .i64 (kOf out k out.length)) (H) := by
  obtain ⟨vs, hs1, hl1, he1⟩ := hv
  rw [mkI_len] at hl1
  refine ac_gc0 (fun β => VR.plainT β (by first | rfl | simp [plainT, plainV, plain1])) (ac_body Try.func30 rfl Try.ntmps30 rfl ?_)
  refine aw_seq ?_
  refine aw_region ?_
  refine al_opd rfl rfl rfl (ao_as (v := .int _ _) rfl) ?_
  refine al_nilT ?_
  refine aw_seq ?_
  refine aw_seq ?_
  refine aw_region ?_
  refine al_opd rfl rfl rfl (ao_as (v := .int _ _) rfl) ?_
  refine al_nilT ?_
  refine aw_block ?_
  refine aw_loop (fun (gk : Nat) (fr : AFr) (G : AHeap) => ∃ get : Nat → Value, fr = ⟨21, get⟩ ∧ (∃ i : Nat, i ≤ out.length ∧ gk = out.length - i ∧ G = H ∧ get 0 = v ∧ get 1 = .int .i64 (kOf out k i) ∧ get 5 = .int .i64 i)) (out.length) ⟨_, rfl, ?_⟩ ?_
  · exact ⟨0, Nat.zero_le _, rfl, rfl, rfl, by rw [kOf_zero]; rfl, rfl⟩
  · rintro gk fr G ⟨get, rfl, i, hi, rfl, rfl, g0, g1, g5⟩
    have hkl := kOf_le (out := out) k i
    refine aw_slot (d := 0) (v := v) (by first | assumption | rfl) ?_
    refine aw_slot (d := 1) (v := .int .i64 (kOf out k i)) (by first | assumption | rfl) ?_
    refine aw_slot (d := 5) (v := .int .i64 i) (by first | assumption | rfl) ?_
    refine aw_seq ?_
    refine aw_seq ?_
    refine aw_region ?_
    refine al_opd rfl rfl rfl (ao_mv (v := .int _ _) rfl) ?_
    first | refine al_opd rfl rfl rfl (ao_mv (v := .slice _ _ _) rfl) ?_ | refine al_opd rfl rfl rfl (ao_mv (v := v) rfl) ?_ | refine al_opd rfl rfl rfl (ao_mv (v := x) rfl) ?_
    first | refine al_opd rfl rfl rfl (ao_lenS Try.underlying49 (by rfl)) ?_ | refine al_opd rfl rfl rfl (ao_lenN Try.underlying49 (by rfl)) ?_ | refine al_opd rfl rfl rfl (ao_lenV Try.underlying49 rfl hs1) ?_
    refine al_opd rfl rfl rfl (ao_lss rfl rfl) ?_
    refine al_nilT ?_
    refine aw_cond rfl (fun h1_ => ?_) (fun h1_ => ?_)
    · try simp only [decide_eq_true_eq, decide_eq_false_iff_not, Bool.not_eq_true', Bool.not_eq_false', Bool.and_eq_true, Bool.or_eq_true, Bool.and_eq_false_iff, Bool.or_eq_false_iff, beq_iff_eq, bne_iff_ne, beq_eq_false_iff_ne, bne_eq_false_iff_eq, ne_eq, Decidable.not_not, Bool.decide_eq_true] at h1_
      obtain ⟨x, hx⟩ := get_lt (show i < vs.length by omega)
      obtain ⟨p, hp⟩ := get_lt (show i < out.length by omega)
      have hpl := hle p (List.mem_of_getElem? hp)
      have hxp := he1 i x _ hx (mkI_at hp)
      rw [if_pos (show i < out.length by omega)] at hxp
      refine aw_skipT ?_
      refine aw_seq ?_
      refine aw_block ?_
      refine aw_seq ?_
      refine aw_region ?_
      first | refine al_opd rfl rfl rfl (ao_mv (v := .slice _ _ _) rfl) ?_ | refine al_opd rfl rfl rfl (ao_mv (v := v) rfl) ?_ | refine al_opd rfl rfl rfl (ao_mv (v := x) rfl) ?_
      refine al_opd rfl rfl rfl (ao_mv (v := .int _ _) rfl) ?_
      first | refine al_opd rfl rfl rfl (ao_indexAddrS Try.underlying49 Try.sizeOf40 rfl rfl (by exact IXp) (by exact IXp)) ?_ | refine al_opd rfl rfl rfl (ao_indexV Try.underlying49 Try.sizeOf40 rfl rfl hs1 (by exact IXp) (by exact IXp)) ?_
      refine al_opd rfl rfl rfl (ao_loadV (j := 0) (u := x) Try.isAgg40 hs1 rfl rfl hx rfl) ?_
      refine al_opd rfl rfl rfl (ao_mv (v := .int _ _) rfl) ?_
      refine al_opd rfl rfl rfl (ao_calld (held_spot_c (n := p.length) (k := kOf out k i) hxp (by omega) (by omega)) Try.call21 rfl rfl) ?_
      refine al_opd rfl rfl rfl (ao_as (v := .int _ _) rfl) ?_
      refine al_nilT ?_
      refine aw_seq ?_
      refine aw_region ?_
      refine al_opd rfl rfl rfl (ao_mv (v := .int _ _) rfl) ?_
      refine al_opd rfl rfl rfl (ao_lss rfl rfl) ?_
      refine al_nilT ?_
      refine aw_cond rfl (fun h2_ => ?_) (fun h2_ => ?_)
      · try simp only [decide_eq_true_eq, decide_eq_false_iff_not, Bool.not_eq_true', Bool.not_eq_false', Bool.and_eq_true, Bool.or_eq_true, Bool.and_eq_false_iff, Bool.or_eq_false_iff, beq_iff_eq, bne_iff_ne, beq_eq_false_iff_ne, bne_eq_false_iff_eq, ne_eq, Decidable.not_not, Bool.decide_eq_true] at h2_
        first | done | omega | (exfalso; revert h2_; simp; (first | done | omega))
      · try simp only [decide_eq_true_eq, decide_eq_false_iff_not, Bool.not_eq_true', Bool.not_eq_false', Bool.and_eq_true, Bool.or_eq_true, Bool.and_eq_false_iff, Bool.or_eq_false_iff, beq_iff_eq, bne_iff_ne, beq_eq_false_iff_ne, bne_eq_false_iff_eq, ne_eq, Decidable.not_not, Bool.decide_eq_true] at h2_
        refine aw_skipB ?_
        refine thenA_n ?_
        refine aw_region ?_
        refine al_opd rfl rfl rfl (ao_mv (v := .int _ _) rfl) ?_
        first | refine al_opd rfl rfl rfl ((ao_add rfl rfl).val (nw_i64 BDp BDp)) ?_ | refine al_opd rfl rfl rfl (ao_add rfl rfl) ?_
        refine al_opd rfl rfl rfl (ao_as (v := .int _ _) rfl) ?_
        refine al_nilT ?_
        exact ⟨_, by omega, _, rfl, i + 1, by omega, rfl, rfl, rfl, by rw [kOf_succ hp]; rfl, by rfl⟩
    · try simp only [decide_eq_true_eq, decide_eq_false_iff_not, Bool.not_eq_true', Bool.not_eq_false', Bool.and_eq_true, Bool.or_eq_true, Bool.and_eq_false_iff, Bool.or_eq_false_iff, beq_iff_eq, bne_iff_ne, beq_eq_false_iff_ne, bne_eq_false_iff_eq, ne_eq, Decidable.not_not, Bool.decide_eq_true] at h1_
      obtain rfl : i = out.length := by omega
      refine aw_exit ?_
      refine thenA_x ?_
      refine thenA_x ?_
      refine blockA_hit ?_
      refine thenA_n ?_
      refine aw_seq ?_
      refine aw_region ?_
      refine al_opd rfl rfl rfl (ao_mv (v := .int _ _) rfl) ?_
      refine al_opd rfl rfl rfl (ao_as (v := .int _ _) rfl) ?_
      refine al_nilT ?_
      refine aw_ret ?_
      refine ends1 rfl (rv_tmp (v := .int _ _) rfl) ?_
      exact ⟨by first | rfl | (simp [*]; (first | done | fail)), by exact SMp⟩

end Go.Proofs.Ytkjmcolnoehjbaa
