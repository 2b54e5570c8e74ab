/- Contracts of the program's functions over abstract heaps. -/
import Derived.Test.YtdcmjbaahcipoaaTab
namespace Go.Proofs.Ytdcmjbaahcipoaa
open Go Go.AW Go.Proofs
set_option linter.unusedVariables false
set_option linter.unusedSimpArgs false
set_option maxRecDepth 100000
set_option maxHeartbeats 2000000

-- spec.l00In
theorem l00In_c {n l h : Int} {H : AHeap} : ACd Try.prog 21 [.int .i64 n, .int .i64 l, .int .i64 h] H (.bool (decide (l ≤ n) && decide (n ≤ h))) (H) := by
  refine ac_gc0 (fun β => VR.plainT β (by first | rfl | simp [plainT, plainV, plain1])) (ac_body Try.func21 rfl Try.ntmps21 rfl ?_)
  refine aw_seq ?_
  refine aw_region ?_
  refine al_opd rfl rfl rfl (ao_as (v := .bool _) rfl) ?_
  refine al_nilT ?_
  refine aw_seq ?_
  refine aw_region ?_
  refine al_opd rfl rfl rfl (ao_mv (v := .int _ _) rfl) ?_
  refine al_opd rfl rfl rfl (ao_mv (v := .int _ _) rfl) ?_
  refine al_opd rfl rfl rfl (ao_geq rfl rfl) ?_
  refine al_opd rfl rfl rfl (ao_mv (v := .bool _) rfl) ?_
  refine al_cases (d := 10) rfl (fun h1_ => ?_) (fun h1_ => ?_)
  · try simp only [nrm] at h1_
    refine al_gyes rfl rfl rfl rfl rfl (ao_mv (v := .int _ _) rfl) ?_
    refine al_gyes rfl rfl rfl rfl rfl (ao_mv (v := .int _ _) rfl) ?_
    refine al_gyes rfl rfl rfl rfl rfl (ao_leq rfl rfl) ?_
    refine al_opd rfl rfl rfl (ao_pickT rfl (v := .bool _) rfl) ?_
    refine al_opd rfl rfl rfl (ao_as (v := .bool _) rfl) ?_
    refine al_nilT ?_
    refine aw_ret ?_
    refine ends1 rfl (rv_tmp (v := .bool _) rfl) ?_
    exact ⟨by first | rfl | (simp [*]; (first | done | fail)), by exact SMp⟩
  · try simp only [nrm] at h1_
    refine al_gno rfl rfl rfl rfl rfl ?_
    refine al_gno rfl rfl rfl rfl rfl ?_
    refine al_gno rfl rfl rfl rfl rfl ?_
    refine al_opd rfl rfl rfl (ao_pickF rfl (v := .bool _) rfl) ?_
    refine al_opd rfl rfl rfl (ao_as (v := .bool _) rfl) ?_
    refine al_nilT ?_
    refine aw_ret ?_
    refine ends1 rfl (rv_tmp (v := .bool _) rfl) ?_
    exact ⟨by first | rfl | (simp [*]; (first | done | fail)), by exact SMp⟩

-- impl.within
theorem within_c {n l h : Int} {H : AHeap} : ACd Try.prog 25 [.int .i64 n, .int .i64 l, .int .i64 h] H (.bool (decide (l ≤ n) && decide (n ≤ h))) (H) := by
  refine ac_gc0 (fun β => VR.plainT β (by first | rfl | simp [plainT, plainV, plain1])) (ac_body Try.func25 rfl Try.ntmps25 rfl ?_)
  refine aw_seq ?_
  refine aw_region ?_
  refine al_opd rfl rfl rfl (ao_as (v := .bool _) rfl) ?_
  refine al_nilT ?_
  refine aw_seq ?_
  refine aw_region ?_
  refine al_opd rfl rfl rfl (ao_mv (v := .int _ _) rfl) ?_
  refine al_opd rfl rfl rfl (ao_mv (v := .int _ _) rfl) ?_
  refine al_opd rfl rfl rfl (ao_leq rfl rfl) ?_
  refine al_opd rfl rfl rfl (ao_mv (v := .bool _) rfl) ?_
  refine al_cases (d := 10) rfl (fun h1_ => ?_) (fun h1_ => ?_)
  · try simp only [nrm] at h1_
    refine al_gyes rfl rfl rfl rfl rfl (ao_mv (v := .int _ _) rfl) ?_
    refine al_gyes rfl rfl rfl rfl rfl (ao_mv (v := .int _ _) rfl) ?_
    refine al_gyes rfl rfl rfl rfl rfl (ao_leq rfl rfl) ?_
    refine al_opd rfl rfl rfl (ao_pickT rfl (v := .bool _) rfl) ?_
    refine al_opd rfl rfl rfl (ao_as (v := .bool _) rfl) ?_
    refine al_nilT ?_
    refine aw_ret ?_
    refine ends1 rfl (rv_tmp (v := .bool _) rfl) ?_
    exact ⟨by first | rfl | (simp [*]; (first | done | fail)), by exact SMp⟩
  · try simp only [nrm] at h1_
    refine al_gno rfl rfl rfl rfl rfl ?_
    refine al_gno rfl rfl rfl rfl rfl ?_
    refine al_gno rfl rfl rfl rfl rfl ?_
    refine al_opd rfl rfl rfl (ao_pickF rfl (v := .bool _) rfl) ?_
    refine al_opd rfl rfl rfl (ao_as (v := .bool _) rfl) ?_
    refine al_nilT ?_
    refine aw_ret ?_
    refine ends1 rfl (rv_tmp (v := .bool _) rfl) ?_
    exact ⟨by first | rfl | (simp [*]; (first | done | fail)), by exact SMp⟩

-- laws.szInt16S
theorem szI16_c {α : Type} {e : α → List Value} {l : List α} {v : Value} {k : Int} {H : AHeap} (ha : Sl H e 1 v l) (hl : l.length ≤ 9223372036854775807) (hk : k = 0 ∨ 0 ≤ k ∧ k ≤ 1048576) : ACd Try.prog 19 [v, .int .i64 k] H (.int .i64 (if k - l.length < 0 then -1 else k - l.length)) (H) := by
  refine ac_gc0 (fun β => VR.plainT β (by first | rfl | simp [plainT, plainV, plain1])) (ac_body Try.func19 rfl Try.ntmps19 rfl ?_)
  refine aw_seq ?_
  refine aw_region ?_
  refine al_opd rfl rfl rfl (ao_as (v := .int _ _) rfl) ?_
  refine al_nilT ?_
  refine aw_seq ?_
  refine aw_region ?_
  refine al_opd rfl rfl rfl (ao_mv (v := .int _ _) rfl) ?_
  first | refine al_opd rfl rfl rfl (ao_mv (v := .slice _ _ _) rfl) ?_ | refine al_opd rfl rfl rfl (ao_mv (v := v) rfl) ?_
  first | refine al_opd rfl rfl rfl (ao_lenS Try.underlying23 (by rfl)) ?_ | refine al_opd rfl rfl rfl (ao_lenN Try.underlying23 (by rfl)) ?_ | refine al_opd rfl rfl rfl (ao_lenV Try.underlying23 rfl ha) ?_
  first | refine al_opd rfl rfl rfl ((ao_sub rfl rfl).val (nw_i64 BDp BDp)) ?_ | refine al_opd rfl rfl rfl (ao_sub rfl rfl) ?_
  refine al_opd rfl rfl rfl (ao_as (v := .int _ _) rfl) ?_
  refine al_nilT ?_
  refine aw_seq ?_
  refine aw_seq ?_
  refine aw_region ?_
  refine al_opd rfl rfl rfl (ao_mv (v := .int _ _) rfl) ?_
  refine al_opd rfl rfl rfl (ao_lss rfl rfl) ?_
  refine al_nilT ?_
  refine aw_cond rfl (fun h1_ => ?_) (fun h1_ => ?_)
  · try simp only [nrm] at h1_
    refine aw_seq ?_
    refine aw_region ?_
    refine al_opd rfl rfl rfl (ao_as (v := .int _ _) rfl) ?_
    refine al_nilT ?_
    refine aw_ret ?_
    refine thenA_r ?_
    refine ends1 rfl (rv_tmp (v := .int _ _) rfl) ?_
    exact ⟨by rw [if_pos (by omega)], by exact SMp⟩
  · try simp only [nrm] at h1_
    refine aw_skipT ?_
    refine aw_seq ?_
    refine aw_region ?_
    refine al_opd rfl rfl rfl (ao_mv (v := .int _ _) rfl) ?_
    refine al_opd rfl rfl rfl (ao_as (v := .int _ _) rfl) ?_
    refine al_nilT ?_
    refine aw_ret ?_
    refine ends1 rfl (rv_tmp (v := .int _ _) rfl) ?_
    exact ⟨by rw [if_neg (by omega)], by exact SMp⟩

-- laws.eqInt16S
theorem eqI16_c {v u : Value} {l m : List Int} {H : AHeap} (ha : Sl H i16 1 v l) (hb : Sl H i16 1 u m) (hl : l.length ≤ 4194304) : ACd Try.prog 27 [v, u] H (.bool (decide (l = m))) (H) := by
  refine ac_gc0 (fun β => VR.plainT β (by first | rfl | simp [plainT, plainV, plain1])) (ac_body Try.func27 rfl Try.ntmps27 rfl ?_)
  refine aw_seq ?_
  refine aw_region ?_
  refine al_opd rfl rfl rfl (ao_as (v := .bool _) rfl) ?_
  refine al_nilT ?_
  refine aw_seq ?_
  refine aw_seq ?_
  refine aw_region ?_
  first | refine al_opd rfl rfl rfl (ao_mv (v := .slice _ _ _) rfl) ?_ | refine al_opd rfl rfl rfl (ao_mv (v := v) rfl) ?_ | refine al_opd rfl rfl rfl (ao_mv (v := u) rfl) ?_
  first | refine al_opd rfl rfl rfl (ao_lenS Try.underlying23 (by rfl)) ?_ | refine al_opd rfl rfl rfl (ao_lenN Try.underlying23 (by rfl)) ?_ | refine al_opd rfl rfl rfl (ao_lenV Try.underlying23 rfl ha) ?_ | refine al_opd rfl rfl rfl (ao_lenV Try.underlying23 rfl hb) ?_
  first | refine al_opd rfl rfl rfl (ao_mv (v := .slice _ _ _) rfl) ?_ | refine al_opd rfl rfl rfl (ao_mv (v := v) rfl) ?_ | refine al_opd rfl rfl rfl (ao_mv (v := u) rfl) ?_
  first | refine al_opd rfl rfl rfl (ao_lenS Try.underlying23 (by rfl)) ?_ | refine al_opd rfl rfl rfl (ao_lenN Try.underlying23 (by rfl)) ?_ | refine al_opd rfl rfl rfl (ao_lenV Try.underlying23 rfl ha) ?_ | refine al_opd rfl rfl rfl (ao_lenV Try.underlying23 rfl hb) ?_
  refine al_opd rfl rfl rfl (ao_neq rfl rfl) ?_
  refine al_nilT ?_
  refine aw_cond rfl (fun h1_ => ?_) (fun h1_ => ?_)
  · try simp only [nrm] at h1_
    refine aw_seq ?_
    refine aw_region ?_
    refine al_opd rfl rfl rfl (ao_as (v := .bool _) rfl) ?_
    refine al_nilT ?_
    refine aw_ret ?_
    refine thenA_r ?_
    refine ends1 rfl (rv_tmp (v := .bool _) rfl) ?_
    exact ⟨by rw [decide_eq_false (fun e => h1_ (by rw [e]))], by exact SMp⟩
  · try simp only [nrm] at h1_
    refine aw_skipT ?_
    refine aw_seq ?_
    refine aw_seq ?_
    refine aw_region ?_
    refine al_opd rfl rfl rfl (ao_as (v := .int _ _) rfl) ?_
    refine al_nilT ?_
    refine aw_block ?_
    refine aw_loop (fun (gk : Nat) (fr : AFr) (G : AHeap) => ∃ get : Nat → Value, fr = ⟨26, get⟩ ∧ (∃ i : Nat, i ≤ l.length ∧ gk = l.length - i ∧ G = H ∧ get 0 = v ∧ get 1 = u ∧ get 5 = .int .i64 i ∧ l.take i = m.take i)) (l.length) ⟨_, rfl, ?_⟩ ?_
    · exact ⟨0, Nat.zero_le _, rfl, rfl, rfl, rfl, rfl, by simp⟩
    · rintro gk fr G ⟨get, rfl, i, hi, rfl, rfl, g0, g1, g5, hq⟩
      have hlen : l.length = m.length := by omega
      refine aw_slot (d := 0) (v := v) (by first | assumption | rfl) ?_
      refine aw_slot (d := 1) (v := u) (by first | assumption | rfl) ?_
      refine aw_slot (d := 5) (v := .int .i64 i) (by first | assumption | rfl) ?_
      refine aw_seq ?_
      refine aw_seq ?_
      refine aw_region ?_
      refine al_opd rfl rfl rfl (ao_mv (v := .int _ _) rfl) ?_
      first | refine al_opd rfl rfl rfl (ao_mv (v := .slice _ _ _) rfl) ?_ | refine al_opd rfl rfl rfl (ao_mv (v := v) rfl) ?_ | refine al_opd rfl rfl rfl (ao_mv (v := u) rfl) ?_
      first | refine al_opd rfl rfl rfl (ao_lenS Try.underlying23 (by rfl)) ?_ | refine al_opd rfl rfl rfl (ao_lenN Try.underlying23 (by rfl)) ?_ | refine al_opd rfl rfl rfl (ao_lenV Try.underlying23 rfl ha) ?_ | refine al_opd rfl rfl rfl (ao_lenV Try.underlying23 rfl hb) ?_
      refine al_opd rfl rfl rfl (ao_lss rfl rfl) ?_
      refine al_nilT ?_
      refine aw_cond rfl (fun h2_ => ?_) (fun h2_ => ?_)
      · try simp only [nrm] at h2_
        obtain ⟨x, hx⟩ := get_lt (show i < l.length by omega)
        obtain ⟨y, hy⟩ := get_lt (show i < m.length by omega)
        refine aw_skipT ?_
        refine aw_seq ?_
        refine aw_block ?_
        refine aw_seq ?_
        refine aw_draw (m := 9) mo (by kernel_rfl) rfl (fun _ _ _ h => h) ?_
        first | refine dw_opd rfl rfl rfl (ao_mv (v := .slice _ _ _) rfl) ?_ | refine dw_opd rfl rfl rfl (ao_mv (v := v) rfl) ?_ | refine dw_opd rfl rfl rfl (ao_mv (v := u) rfl) ?_
        refine dw_opd rfl rfl rfl (ao_mv (v := .int _ _) rfl) ?_
        first | refine dw_opd rfl rfl rfl (ao_indexAddrS Try.underlying23 Try.sizeOf22 rfl rfl (by exact IXp) (by exact IXp)) ?_ | refine dw_opd rfl rfl rfl (ao_indexV Try.underlying23 Try.sizeOf22 rfl rfl ha (by exact IXp) (by exact IXp)) ?_ | refine dw_opd rfl rfl rfl (ao_indexV Try.underlying23 Try.sizeOf22 rfl rfl hb (by exact IXp) (by exact IXp)) ?_
        first | refine dw_opd rfl rfl rfl (ao_load (v := .int _ _) Try.isAgg22 (by rfl) (by exact HLp) (by rfl) (by exact RFp)) ?_ | refine dw_opd rfl rfl rfl (ao_loadV (j := 0) (u := .int _ _) Try.isAgg22 ha rfl rfl (by assumption) rfl) ?_ | refine dw_opd rfl rfl rfl (ao_loadV (j := 1) (u := .int _ _) Try.isAgg22 ha rfl rfl (by assumption) rfl) ?_ | refine dw_opd rfl rfl rfl (ao_loadV (j := 0) (u := .int _ _) Try.isAgg22 hb rfl rfl (by assumption) rfl) ?_ | refine dw_opd rfl rfl rfl (ao_loadV (j := 1) (u := .int _ _) Try.isAgg22 hb rfl rfl (by assumption) rfl) ?_ | refine dw_opd rfl rfl rfl (ao_loadV (i := 0) (j := 0) (u := .int _ _) Try.isAgg22 ha rfl rfl (by assumption) rfl) ?_ | refine dw_opd rfl rfl rfl (ao_loadV (i := 0) (j := 1) (u := .int _ _) Try.isAgg22 ha rfl rfl (by assumption) rfl) ?_ | refine dw_opd rfl rfl rfl (ao_loadV (i := 0) (j := 0) (u := .int _ _) Try.isAgg22 hb rfl rfl (by assumption) rfl) ?_ | refine dw_opd rfl rfl rfl (ao_loadV (i := 0) (j := 1) (u := .int _ _) Try.isAgg22 hb rfl rfl (by assumption) rfl) ?_
        first | refine dw_opd rfl rfl rfl (ao_mv (v := .slice _ _ _) rfl) ?_ | refine dw_opd rfl rfl rfl (ao_mv (v := v) rfl) ?_ | refine dw_opd rfl rfl rfl (ao_mv (v := u) rfl) ?_
        refine dw_opd rfl rfl rfl (ao_mv (v := .int _ _) rfl) ?_
        first | refine dw_opd rfl rfl rfl (ao_indexAddrS Try.underlying23 Try.sizeOf22 rfl rfl (by exact IXp) (by exact IXp)) ?_ | refine dw_opd rfl rfl rfl (ao_indexV Try.underlying23 Try.sizeOf22 rfl rfl ha (by exact IXp) (by exact IXp)) ?_ | refine dw_opd rfl rfl rfl (ao_indexV Try.underlying23 Try.sizeOf22 rfl rfl hb (by exact IXp) (by exact IXp)) ?_
        first | refine dw_opd rfl rfl rfl (ao_load (v := .int _ _) Try.isAgg22 (by rfl) (by exact HLp) (by rfl) (by exact RFp)) ?_ | refine dw_opd rfl rfl rfl (ao_loadV (j := 0) (u := .int _ _) Try.isAgg22 ha rfl rfl (by assumption) rfl) ?_ | refine dw_opd rfl rfl rfl (ao_loadV (j := 1) (u := .int _ _) Try.isAgg22 ha rfl rfl (by assumption) rfl) ?_ | refine dw_opd rfl rfl rfl (ao_loadV (j := 0) (u := .int _ _) Try.isAgg22 hb rfl rfl (by assumption) rfl) ?_ | refine dw_opd rfl rfl rfl (ao_loadV (j := 1) (u := .int _ _) Try.isAgg22 hb rfl rfl (by assumption) rfl) ?_ | refine dw_opd rfl rfl rfl (ao_loadV (i := 0) (j := 0) (u := .int _ _) Try.isAgg22 ha rfl rfl (by assumption) rfl) ?_ | refine dw_opd rfl rfl rfl (ao_loadV (i := 0) (j := 1) (u := .int _ _) Try.isAgg22 ha rfl rfl (by assumption) rfl) ?_ | refine dw_opd rfl rfl rfl (ao_loadV (i := 0) (j := 0) (u := .int _ _) Try.isAgg22 hb rfl rfl (by assumption) rfl) ?_ | refine dw_opd rfl rfl rfl (ao_loadV (i := 0) (j := 1) (u := .int _ _) Try.isAgg22 hb rfl rfl (by assumption) rfl) ?_
        refine dw_opd rfl rfl rfl (ao_neq rfl rfl) ?_
        refine dw_end ?_
        refine al_nilT ?_
        refine aw_cond rfl (fun h3_ => ?_) (fun h3_ => ?_)
        · try simp only [nrm] at h3_
          refine aw_seq ?_
          refine aw_region ?_
          refine al_opd rfl rfl rfl (ao_as (v := .bool _) rfl) ?_
          refine al_nilT ?_
          refine aw_ret ?_
          refine blockA_r ?_
          refine thenA_r ?_
          refine thenA_r ?_
          refine blockA_r ?_
          refine thenA_r ?_
          refine ends1 rfl (rv_tmp (v := .bool _) rfl) ?_
          exact ⟨by rw [decide_eq_false (ne_at hx hy h3_)], by exact SMp⟩
        · try simp only [nrm] at h3_
          refine aw_skipB ?_
          refine thenA_n ?_
          refine aw_region ?_
          refine al_opd rfl rfl rfl (ao_mv (v := .int _ _) rfl) ?_
          first | refine al_opd rfl rfl rfl ((ao_add rfl rfl).val (nw_i64 BDp BDp)) ?_ | refine al_opd rfl rfl rfl (ao_add rfl rfl) ?_
          refine al_opd rfl rfl rfl (ao_as (v := .int _ _) rfl) ?_
          refine al_nilT ?_
          exact ⟨_, by omega, _, rfl, i + 1, by omega, rfl, rfl, rfl, rfl, by rfl, take_step hq hx (by rw [hy]; exact congrArg some h3_.symm)⟩
      · try simp only [nrm] at h2_
        refine aw_exit ?_
        refine thenA_x ?_
        refine thenA_x ?_
        refine blockA_hit ?_
        refine thenA_n ?_
        refine aw_seq ?_
        refine aw_region ?_
        refine al_opd rfl rfl rfl (ao_as (v := .bool _) rfl) ?_
        refine al_nilT ?_
        refine aw_ret ?_
        refine ends1 rfl (rv_tmp (v := .bool _) rfl) ?_
        exact ⟨by rw [decide_eq_true (take_all hq (by omega) hlen)], by exact SMp⟩

-- laws.toInt16S
theorem toI16_c {v : Value} {l : List Int} {H : AHeap} (ha : Sl H i16 1 v l) (hl : l.length ≤ 4194304) : ACd Try.prog 22 [v] H ((.slice (some ⟨H.next, 0, none⟩) l.length l.length)) (H.push (.cells (fl i16 l) 1)) := by
  refine ac_gcs (vrl_fl i16_plain l) (ac_body Try.func22 rfl Try.ntmps22 rfl ?_)
  refine aw_seq ?_
  refine aw_region ?_
  first | refine al_opd rfl rfl rfl (ao_as (v := .slice _ _ _) rfl) ?_ | refine al_opd rfl rfl rfl (ao_as (v := v) rfl) ?_
  refine al_nilT ?_
  refine aw_seq ?_
  refine aw_region ?_
  first | refine al_opd rfl rfl rfl (ao_mv (v := .slice _ _ _) rfl) ?_ | refine al_opd rfl rfl rfl (ao_mv (v := v) rfl) ?_
  first | refine al_opd rfl rfl rfl (ao_lenS Try.underlying23 (by rfl)) ?_ | refine al_opd rfl rfl rfl (ao_lenN Try.underlying23 (by rfl)) ?_ | refine al_opd rfl rfl rfl (ao_lenV Try.underlying23 rfl ha) ?_ | refine al_opd rfl rfl rfl (ao_lenV Try.underlying23 rfl hb) ?_
  refine al_opd rfl rfl rfl (ao_makeF (i16) (0) Try.underlying23 elz22 (by rfl) (by decide) rfl rfl (by first | rfl | omega) (by exact IXp) (by exact IXp)) ?_
  first | refine al_opd rfl rfl rfl (ao_as (v := .slice _ _ _) rfl) ?_ | refine al_opd rfl rfl rfl (ao_as (v := v) rfl) ?_
  refine al_nilT ?_
  refine aw_seq ?_
  refine aw_seq ?_
  refine aw_region ?_
  refine al_opd rfl rfl rfl (ao_as (v := .int _ _) rfl) ?_
  refine al_nilT ?_
  refine aw_block ?_
  have hb : Sl (H.push (.cells (fl i16 (List.replicate l.length 0)) 1)) i16 1 v l := ha.mono (by exact SMp)
  refine aw_loop (fun (gk : Nat) (fr : AFr) (G : AHeap) => ∃ get : Nat → Value, fr = ⟨22, get⟩ ∧ (∃ (i : Nat) (z : List Int), i ≤ l.length ∧ gk = l.length - i ∧ z.length = l.length ∧ z.take i = l.take i ∧ G = H.push (.cells (fl i16 z) 1) ∧ get 0 = v ∧ get 3 = (.slice (some ⟨H.next, 0, none⟩) l.length l.length) ∧ get 4 = .int .i64 i)) (l.length) ⟨_, rfl, ?_⟩ ?_
  · exact ⟨0, _, Nat.zero_le _, rfl, by simp, by simp, rfl, rfl, rfl, rfl⟩
  · rintro gk fr G ⟨get, rfl, i, z, hi, rfl, hz, hq, rfl, g0, g3, g4⟩
    have hb : Sl (H.push (.cells (fl i16 z) 1)) i16 1 v l := ha.mono (by exact SMp)
    refine aw_slot (d := 0) (v := v) (by first | assumption | rfl) ?_
    refine aw_slot (d := 3) (v := (.slice (some ⟨H.next, 0, none⟩) l.length l.length)) (by first | assumption | rfl) ?_
    refine aw_slot (d := 4) (v := .int .i64 i) (by first | assumption | rfl) ?_
    refine aw_seq ?_
    refine aw_seq ?_
    refine aw_region ?_
    refine al_opd rfl rfl rfl (ao_mv (v := .int _ _) rfl) ?_
    first | refine al_opd rfl rfl rfl (ao_mv (v := .slice _ _ _) rfl) ?_ | refine al_opd rfl rfl rfl (ao_mv (v := v) rfl) ?_
    first | refine al_opd rfl rfl rfl (ao_lenS Try.underlying23 (by rfl)) ?_ | refine al_opd rfl rfl rfl (ao_lenN Try.underlying23 (by rfl)) ?_ | refine al_opd rfl rfl rfl (ao_lenV Try.underlying23 rfl ha) ?_ | refine al_opd rfl rfl rfl (ao_lenV Try.underlying23 rfl hb) ?_
    refine al_opd rfl rfl rfl (ao_lss rfl rfl) ?_
    refine al_nilT ?_
    refine aw_cond rfl (fun h1_ => ?_) (fun h1_ => ?_)
    · try simp only [nrm] at h1_
      obtain ⟨x, hx⟩ := get_lt (show i < l.length by omega)
      refine aw_skipT ?_
      refine aw_seq ?_
      refine aw_block ?_
      refine aw_region ?_
      first | refine al_opd rfl rfl rfl (ao_mv (v := .slice _ _ _) rfl) ?_ | refine al_opd rfl rfl rfl (ao_mv (v := v) rfl) ?_
      refine al_opd rfl rfl rfl (ao_mv (v := .int _ _) rfl) ?_
      first | refine al_opd rfl rfl rfl (ao_mv (v := .slice _ _ _) rfl) ?_ | refine al_opd rfl rfl rfl (ao_mv (v := v) rfl) ?_
      refine al_opd rfl rfl rfl (ao_mv (v := .int _ _) rfl) ?_
      first | refine al_opd rfl rfl rfl (ao_indexAddrS Try.underlying23 Try.sizeOf22 rfl rfl (by exact IXp) (by exact IXp)) ?_ | refine al_opd rfl rfl rfl (ao_indexV Try.underlying23 Try.sizeOf22 rfl rfl ha (by exact IXp) (by exact IXp)) ?_ | refine al_opd rfl rfl rfl (ao_indexV Try.underlying23 Try.sizeOf22 rfl rfl hb (by exact IXp) (by exact IXp)) ?_
      first | refine al_opd rfl rfl rfl (ao_load (v := .int _ _) Try.isAgg22 (by rfl) (by exact HLp) (by rfl) (by exact RFp)) ?_ | refine al_opd rfl rfl rfl (ao_loadV (j := 0) (u := .int _ _) Try.isAgg22 ha rfl rfl (by assumption) rfl) ?_ | refine al_opd rfl rfl rfl (ao_loadV (j := 1) (u := .int _ _) Try.isAgg22 ha rfl rfl (by assumption) rfl) ?_ | refine al_opd rfl rfl rfl (ao_loadV (j := 0) (u := .int _ _) Try.isAgg22 hb rfl rfl (by assumption) rfl) ?_ | refine al_opd rfl rfl rfl (ao_loadV (j := 1) (u := .int _ _) Try.isAgg22 hb rfl rfl (by assumption) rfl) ?_ | refine al_opd rfl rfl rfl (ao_loadV (i := 0) (j := 0) (u := .int _ _) Try.isAgg22 ha rfl rfl (by assumption) rfl) ?_ | refine al_opd rfl rfl rfl (ao_loadV (i := 0) (j := 1) (u := .int _ _) Try.isAgg22 ha rfl rfl (by assumption) rfl) ?_ | refine al_opd rfl rfl rfl (ao_loadV (i := 0) (j := 0) (u := .int _ _) Try.isAgg22 hb rfl rfl (by assumption) rfl) ?_ | refine al_opd rfl rfl rfl (ao_loadV (i := 0) (j := 1) (u := .int _ _) Try.isAgg22 hb rfl rfl (by assumption) rfl) ?_
      first | refine al_opd rfl rfl rfl (ao_indexAddrS Try.underlying23 Try.sizeOf22 rfl rfl (by exact IXp) (by exact IXp)) ?_ | refine al_opd rfl rfl rfl (ao_indexV Try.underlying23 Try.sizeOf22 rfl rfl ha (by exact IXp) (by exact IXp)) ?_ | refine al_opd rfl rfl rfl (ao_indexV Try.underlying23 Try.sizeOf22 rfl rfl hb (by exact IXp) (by exact IXp)) ?_
      refine al_opd rfl rfl rfl ((ao_store1 (v := .int _ _) Try.sizeOf22 (by rfl) (by rfl) (by exact HLp) (by rfl) (by (rw [fl_len i16_len, hz]; simp; omega))).to (SetR.eq (by exact SRp))) ?_
      refine al_nilB ?_
      refine thenA_n ?_
      refine aw_region ?_
      refine al_opd rfl rfl rfl (ao_mv (v := .int _ _) rfl) ?_
      first | refine al_opd rfl rfl rfl ((ao_add rfl rfl).val (nw_i64 BDp BDp)) ?_ | refine al_opd rfl rfl rfl (ao_add rfl rfl) ?_
      refine al_opd rfl rfl rfl (ao_as (v := .int _ _) rfl) ?_
      refine al_nilT ?_
      exact ⟨_, by omega, _, rfl, i + 1, z.set i x, by omega, rfl, by simp [hz], take_setz hq hx (by omega), congrArg (fun c => H.push (.cells c 1)) (fl_setz (j := 0) i16_len x (get_some (show i < z.length by omega)) (by decide) (by rfl)), rfl, rfl, by rfl⟩
    · try simp only [nrm] at h1_
      refine aw_exit ?_
      refine thenA_x ?_
      refine thenA_x ?_
      refine blockA_hit ?_
      refine thenA_n ?_
      refine aw_seq ?_
      refine aw_region ?_
      first | refine al_opd rfl rfl rfl (ao_mv (v := .slice _ _ _) rfl) ?_ | refine al_opd rfl rfl rfl (ao_mv (v := v) rfl) ?_
      first | refine al_opd rfl rfl rfl (ao_as (v := .slice _ _ _) rfl) ?_ | refine al_opd rfl rfl rfl (ao_as (v := v) rfl) ?_
      refine al_nilT ?_
      refine aw_ret ?_
      refine ends1 rfl (rv_tmp (v := .slice _ _ _) rfl) ?_
      exact ⟨by exact SMp, H.next, Nat.le_refl _, by rw [take_all hq (by omega) hz]; exact blk_push_new _ _, fun ρ h => vr_sl h (Nat.le_refl _) (fun _ => rfl)⟩

-- laws.szRope
theorem szRope_c {L : Int} {v : Value} {l : List Int} {k : Int} {H : AHeap} (ha : Sl H i16 1 v l) (hl : l.length ≤ 9223372036854775807) (hk : k = 0 ∨ 0 ≤ k ∧ k ≤ 1048576) : ACd Try.prog 5 [.agg #[.int .i16 L, v], .int .i64 k] H (.int .i64 (if k - l.length < 0 then -1 else k - l.length)) (H) := by
  refine ac_gc0 (fun β => VR.plainT β (by first | rfl | simp [plainT, plainV, plain1])) (ac_body Try.func5 rfl Try.ntmps5 rfl ?_)
  refine aw_seq ?_
  refine aw_region ?_
  refine al_opd rfl rfl rfl (ao_boxa (by rfl)) ?_
  refine al_opd rfl rfl rfl (ao_as (v := .int _ _) rfl) ?_
  refine al_nilT ?_
  refine aw_seq ?_
  refine aw_region ?_
  refine al_opd rfl rfl rfl (ao_fieldAddr fo_25_1 rfl) ?_
  first | refine al_opd rfl rfl rfl (ao_load (v := .slice _ _ _) Try.isAgg23 (by rfl) (by exact HLp) (by rfl) (by exact RFp)) ?_ | refine al_opd rfl rfl rfl (ao_load (v := v) Try.isAgg23 (by rfl) (by exact HLp) (by rfl) (by exact RFp)) ?_
  refine al_opd rfl rfl rfl (ao_mv (v := .int _ _) rfl) ?_
  refine al_opd rfl rfl rfl (ao_calld (szI16_c (l := l) (v := v) (ha.mono (by exact SMp)) hl hk) Try.call19 rfl rfl) ?_
  refine al_opd rfl rfl rfl (ao_as (v := .int _ _) rfl) ?_
  refine al_nilT ?_
  refine aw_seq ?_
  refine aw_seq ?_
  refine aw_region ?_
  refine al_opd rfl rfl rfl (ao_mv (v := .int _ _) rfl) ?_
  refine al_opd rfl rfl rfl (ao_lss rfl rfl) ?_
  refine al_nilT ?_
  refine aw_cond rfl (fun h1_ => ?_) (fun h1_ => ?_)
  · try simp only [nrm] at h1_
    refine aw_seq ?_
    refine aw_region ?_
    refine al_opd rfl rfl rfl (ao_as (v := .int _ _) rfl) ?_
    refine al_nilT ?_
    refine aw_ret ?_
    refine thenA_r ?_
    refine ends1 rfl (rv_tmp (v := .int _ _) rfl) ?_
    exact ⟨by split at h1_ <;> simp_all, by exact SMp⟩
  · try simp only [nrm] at h1_
    refine aw_skipT ?_
    refine aw_seq ?_
    refine aw_region ?_
    refine al_opd rfl rfl rfl (ao_mv (v := .int _ _) rfl) ?_
    refine al_opd rfl rfl rfl (ao_as (v := .int _ _) rfl) ?_
    refine al_nilT ?_
    refine aw_ret ?_
    refine ends1 rfl (rv_tmp (v := .int _ _) rfl) ?_
    exact ⟨rfl, by exact SMp⟩

-- laws.toRope
theorem toRope_c {L : Int} {v : Value} {l : List Int} {H : AHeap} (ha : Sl H i16 1 v l) (hl : l.length ≤ 4194304) : ACd Try.prog 7 [.agg #[.int .i16 L, v]] H (.agg #[.int .i16 L, (.slice (some ⟨H.next, 0, none⟩) l.length l.length)]) (H.push (.cells (fl i16 l) 1)) := by
  refine ac_gcs (vrl_fl i16_plain l) (ac_body Try.func7 rfl Try.ntmps7 rfl ?_)
  refine aw_seq ?_
  refine aw_region ?_
  refine al_opd rfl rfl rfl (ao_boxa (by rfl)) ?_
  refine al_opd rfl rfl rfl (ao_alloca (zv27) (by rfl)) ?_
  refine al_nilT ?_
  refine aw_seq ?_
  refine aw_region ?_
  refine al_opd rfl rfl rfl (ao_alloca (zv27) (by rfl)) ?_
  refine al_nilT ?_
  refine aw_seq ?_
  refine aw_region ?_
  refine al_opd rfl rfl rfl (ao_fieldAddr fo_25_0 rfl) ?_
  refine al_opd rfl rfl rfl (ao_load (v := .int _ _) Try.isAgg22 (by rfl) (by exact HLp) (by rfl) (by exact RFp)) ?_
  refine al_opd rfl rfl rfl (ao_fieldAddr fo_27_0 rfl) ?_
  refine al_opd rfl rfl rfl ((ao_store1 (v := .int _ _) Try.sizeOf22 (by rfl) (by rfl) (by exact HLp) (by rfl) (by exact LTp)).to (SetR.eq (by exact SRp))) ?_
  refine al_nilT ?_
  refine aw_seq ?_
  refine aw_region ?_
  refine al_opd rfl rfl rfl (ao_fieldAddr fo_25_1 rfl) ?_
  first | refine al_opd rfl rfl rfl (ao_load (v := .slice _ _ _) Try.isAgg23 (by rfl) (by exact HLp) (by rfl) (by exact RFp)) ?_ | refine al_opd rfl rfl rfl (ao_load (v := v) Try.isAgg23 (by rfl) (by exact HLp) (by rfl) (by exact RFp)) ?_
  refine al_opd rfl rfl rfl (ao_calld (toI16_c (l := l) (v := v) (ha.mono (by exact SMp)) hl) Try.call22 rfl rfl) ?_
  refine al_opd rfl rfl rfl (ao_fieldAddr fo_27_1 rfl) ?_
  refine al_opd rfl rfl rfl ((ao_store1 (v := .slice _ _ _) Try.sizeOf23 (by rfl) (by rfl) (by exact HLp) (by rfl) (by exact LTp)).to (SetR.eq (by exact SRp))) ?_
  refine al_nilT ?_
  refine aw_seq ?_
  refine aw_region ?_
  refine al_opd rfl rfl rfl (ao_loada Try.isAgg27 Try.sizeOf27 rfl (by exact HLp) (by rfl) (by exact RFp)) ?_
  first | refine al_opd rfl rfl rfl ((ao_storeL Try.sizeOf27 (by rfl) (by rfl) (by exact HLp) (by exact RFp) (by exact RFp) (by exact RFp)).to (SetR.eq (by exact SRp))) ?_ | refine al_opd rfl rfl rfl ((ao_storeP (ds := [.int _ _, .slice _ _ _]) Try.sizeOf27 (by rfl) (by rfl) (by exact HLp) (by exact RFp) (by exact RFp) (by exact LTp)).to (SetR.eq (by exact SRp))) ?_
  refine al_nilT ?_
  refine aw_ret ?_
  refine ends1 rfl (rv_cella Try.isAgg27 Try.sizeOf27 rfl (by exact HLp) (by rfl) (by exact RFp)) ?_
  exact ⟨by exact SMp, _, by exact LEp, by exact HLp, fun ρ h => vr_agg2 (.int _ _) (vr_sl h (Nat.le_refl _) (fun _ => rfl))⟩

-- laws.eqRope
theorem eqRope_c {L M : Int} {v u : Value} {l m : List Int} {H : AHeap} (ha : Sl H i16 1 v l) (hb : Sl H i16 1 u m) (hl : l.length ≤ 4194304) : ACd Try.prog 9 [.agg #[.int .i16 L, v], .agg #[.int .i16 M, u]] H (.bool (decide (L = M) && decide (l = m))) (H) := by
  refine ac_gc0 (fun β => VR.plainT β (by first | rfl | simp [plainT, plainV, plain1])) (ac_body Try.func9 rfl Try.ntmps9 rfl ?_)
  refine aw_seq ?_
  refine aw_region ?_
  refine al_opd rfl rfl rfl (ao_boxa (by rfl)) ?_
  refine al_opd rfl rfl rfl (ao_boxa (by rfl)) ?_
  refine al_opd rfl rfl rfl (ao_as (v := .bool _) rfl) ?_
  refine al_nilT ?_
  refine aw_seq ?_
  refine aw_seq ?_
  refine aw_region ?_
  refine al_opd rfl rfl rfl (ao_fieldAddr fo_27_0 rfl) ?_
  refine al_opd rfl rfl rfl (ao_load (v := .int _ _) Try.isAgg22 (by rfl) (by exact HLp) (by rfl) (by exact RFp)) ?_
  refine al_opd rfl rfl rfl (ao_fieldAddr fo_27_0 rfl) ?_
  refine al_opd rfl rfl rfl (ao_load (v := .int _ _) Try.isAgg22 (by rfl) (by exact HLp) (by rfl) (by exact RFp)) ?_
  refine al_opd rfl rfl rfl (ao_neq rfl rfl) ?_
  refine al_nilT ?_
  refine aw_cond rfl (fun h1_ => ?_) (fun h1_ => ?_)
  · try simp only [nrm] at h1_
    refine aw_seq ?_
    refine aw_region ?_
    refine al_opd rfl rfl rfl (ao_as (v := .bool _) rfl) ?_
    refine al_nilT ?_
    refine aw_ret ?_
    refine thenA_r ?_
    refine ends1 rfl (rv_tmp (v := .bool _) rfl) ?_
    exact ⟨by first | rfl | (simp [*]; (first | done | fail)), by exact SMp⟩
  · try simp only [nrm] at h1_
    refine aw_skipT ?_
    refine aw_seq ?_
    refine aw_seq ?_
    refine aw_region ?_
    refine al_opd rfl rfl rfl (ao_fieldAddr fo_27_1 rfl) ?_
    first | refine al_opd rfl rfl rfl (ao_load (v := .slice _ _ _) Try.isAgg23 (by rfl) (by exact HLp) (by rfl) (by exact RFp)) ?_ | refine al_opd rfl rfl rfl (ao_load (v := v) Try.isAgg23 (by rfl) (by exact HLp) (by rfl) (by exact RFp)) ?_ | refine al_opd rfl rfl rfl (ao_load (v := u) Try.isAgg23 (by rfl) (by exact HLp) (by rfl) (by exact RFp)) ?_
    refine al_opd rfl rfl rfl (ao_fieldAddr fo_27_1 rfl) ?_
    first | refine al_opd rfl rfl rfl (ao_load (v := .slice _ _ _) Try.isAgg23 (by rfl) (by exact HLp) (by rfl) (by exact RFp)) ?_ | refine al_opd rfl rfl rfl (ao_load (v := v) Try.isAgg23 (by rfl) (by exact HLp) (by rfl) (by exact RFp)) ?_ | refine al_opd rfl rfl rfl (ao_load (v := u) Try.isAgg23 (by rfl) (by exact HLp) (by rfl) (by exact RFp)) ?_
    refine al_opd rfl rfl rfl (ao_calld (eqI16_c (l := l) (m := m) (v := v) (u := u) (ha.mono (by exact SMp)) (hb.mono (by exact SMp)) hl) Try.call27 rfl rfl) ?_
    refine al_opd rfl rfl rfl (ao_not rfl) ?_
    refine al_nilT ?_
    refine aw_cond rfl (fun h2_ => ?_) (fun h2_ => ?_)
    · try simp only [nrm] at h2_
      refine aw_seq ?_
      refine aw_region ?_
      refine al_opd rfl rfl rfl (ao_as (v := .bool _) rfl) ?_
      refine al_nilT ?_
      refine aw_ret ?_
      refine thenA_r ?_
      refine ends1 rfl (rv_tmp (v := .bool _) rfl) ?_
      exact ⟨by first | rfl | (simp [*]; (first | done | fail)), by exact SMp⟩
    · try simp only [nrm] at h2_
      refine aw_skipT ?_
      refine aw_seq ?_
      refine aw_region ?_
      refine al_opd rfl rfl rfl (ao_as (v := .bool _) rfl) ?_
      refine al_nilT ?_
      refine aw_ret ?_
      refine ends1 rfl (rv_tmp (v := .bool _) rfl) ?_
      exact ⟨by first | rfl | (simp [*]; (first | done | fail)), by exact SMp⟩

-- laws.szHoldS
theorem szHoldS_c {α : Type} {e : α → List Value} {l : List α} {v : Value} {k : Int} {H : AHeap} (ha : Sl H e 2 v l) (hl : l.length ≤ 9223372036854775807) (hk : k = 0 ∨ 0 ≤ k ∧ k ≤ 1048576) : ACd Try.prog 12 [v, .int .i64 k] H (.int .i64 (if k - l.length < 0 then -1 else k - l.length)) (H) := by
  refine ac_gc0 (fun β => VR.plainT β (by first | rfl | simp [plainT, plainV, plain1])) (ac_body Try.func12 rfl Try.ntmps12 rfl ?_)
  refine aw_seq ?_
  refine aw_region ?_
  refine al_opd rfl rfl rfl (ao_as (v := .int _ _) rfl) ?_
  refine al_nilT ?_
  refine aw_seq ?_
  refine aw_region ?_
  refine al_opd rfl rfl rfl (ao_mv (v := .int _ _) rfl) ?_
  first | refine al_opd rfl rfl rfl (ao_mv (v := .slice _ _ _) rfl) ?_ | refine al_opd rfl rfl rfl (ao_mv (v := v) rfl) ?_
  first | refine al_opd rfl rfl rfl (ao_lenS Try.underlying34 (by rfl)) ?_ | refine al_opd rfl rfl rfl (ao_lenN Try.underlying34 (by rfl)) ?_ | refine al_opd rfl rfl rfl (ao_lenV Try.underlying34 rfl ha) ?_
  first | refine al_opd rfl rfl rfl ((ao_sub rfl rfl).val (nw_i64 BDp BDp)) ?_ | refine al_opd rfl rfl rfl (ao_sub rfl rfl) ?_
  refine al_opd rfl rfl rfl (ao_as (v := .int _ _) rfl) ?_
  refine al_nilT ?_
  refine aw_seq ?_
  refine aw_seq ?_
  refine aw_region ?_
  refine al_opd rfl rfl rfl (ao_mv (v := .int _ _) rfl) ?_
  refine al_opd rfl rfl rfl (ao_lss rfl rfl) ?_
  refine al_nilT ?_
  refine aw_cond rfl (fun h1_ => ?_) (fun h1_ => ?_)
  · try simp only [nrm] at h1_
    refine aw_seq ?_
    refine aw_region ?_
    refine al_opd rfl rfl rfl (ao_as (v := .int _ _) rfl) ?_
    refine al_nilT ?_
    refine aw_ret ?_
    refine thenA_r ?_
    refine ends1 rfl (rv_tmp (v := .int _ _) rfl) ?_
    exact ⟨by rw [if_pos (by omega)], by exact SMp⟩
  · try simp only [nrm] at h1_
    refine aw_skipT ?_
    refine aw_seq ?_
    refine aw_region ?_
    refine al_opd rfl rfl rfl (ao_mv (v := .int _ _) rfl) ?_
    refine al_opd rfl rfl rfl (ao_as (v := .int _ _) rfl) ?_
    refine al_nilT ?_
    refine aw_ret ?_
    refine ends1 rfl (rv_tmp (v := .int _ _) rfl) ?_
    exact ⟨by rw [if_neg (by omega)], by exact SMp⟩

-- laws.eqHold
theorem eqHold1_c {x y : Hold} {H : AHeap} : ACd Try.prog 35 [.agg #[.int .i16 x.who, .int .i8 x.knot], .agg #[.int .i16 y.who, .int .i8 y.knot]] H (.bool (decide (x = y))) (H) := by
  refine ac_gc0 (fun β => VR.plainT β (by first | rfl | simp [plainT, plainV, plain1])) (ac_body Try.func35 rfl Try.ntmps35 rfl ?_)
  refine aw_seq ?_
  refine aw_region ?_
  refine al_opd rfl rfl rfl (ao_boxa (by rfl)) ?_
  refine al_opd rfl rfl rfl (ao_boxa (by rfl)) ?_
  refine al_opd rfl rfl rfl (ao_as (v := .bool _) rfl) ?_
  refine al_nilT ?_
  refine aw_seq ?_
  refine aw_seq ?_
  refine aw_region ?_
  refine al_opd rfl rfl rfl (ao_fieldAddr fo_54_0 rfl) ?_
  refine al_opd rfl rfl rfl (ao_load (v := .int _ _) Try.isAgg22 (by rfl) (by exact HLp) (by rfl) (by exact RFp)) ?_
  refine al_opd rfl rfl rfl (ao_fieldAddr fo_54_0 rfl) ?_
  refine al_opd rfl rfl rfl (ao_load (v := .int _ _) Try.isAgg22 (by rfl) (by exact HLp) (by rfl) (by exact RFp)) ?_
  refine al_opd rfl rfl rfl (ao_neq rfl rfl) ?_
  refine al_nilT ?_
  refine aw_cond rfl (fun h1_ => ?_) (fun h1_ => ?_)
  · try simp only [nrm] at h1_
    refine aw_seq ?_
    refine aw_region ?_
    refine al_opd rfl rfl rfl (ao_as (v := .bool _) rfl) ?_
    refine al_nilT ?_
    refine aw_ret ?_
    refine thenA_r ?_
    refine ends1 rfl (rv_tmp (v := .bool _) rfl) ?_
    exact ⟨by rw [decide_eq_false (fun e => h1_ (by rw [e]))], by exact SMp⟩
  · try simp only [nrm] at h1_
    refine aw_skipT ?_
    refine aw_seq ?_
    refine aw_seq ?_
    refine aw_region ?_
    refine al_opd rfl rfl rfl (ao_fieldAddr fo_54_1 rfl) ?_
    refine al_opd rfl rfl rfl (ao_load (v := .int _ _) Try.isAgg52 (by rfl) (by exact HLp) (by rfl) (by exact RFp)) ?_
    refine al_opd rfl rfl rfl (ao_fieldAddr fo_54_1 rfl) ?_
    refine al_opd rfl rfl rfl (ao_load (v := .int _ _) Try.isAgg52 (by rfl) (by exact HLp) (by rfl) (by exact RFp)) ?_
    refine al_opd rfl rfl rfl (ao_neq rfl rfl) ?_
    refine al_nilT ?_
    refine aw_cond rfl (fun h2_ => ?_) (fun h2_ => ?_)
    · try simp only [nrm] at h2_
      refine aw_seq ?_
      refine aw_region ?_
      refine al_opd rfl rfl rfl (ao_as (v := .bool _) rfl) ?_
      refine al_nilT ?_
      refine aw_ret ?_
      refine thenA_r ?_
      refine ends1 rfl (rv_tmp (v := .bool _) rfl) ?_
      exact ⟨by rw [decide_eq_false (fun e => h2_ (by rw [e]))], by exact SMp⟩
    · try simp only [nrm] at h2_
      refine aw_skipT ?_
      refine aw_seq ?_
      refine aw_region ?_
      refine al_opd rfl rfl rfl (ao_as (v := .bool _) rfl) ?_
      refine al_nilT ?_
      refine aw_ret ?_
      refine ends1 rfl (rv_tmp (v := .bool _) rfl) ?_
      exact ⟨by rw [decide_eq_true (hold_ext h1_ h2_)], by exact SMp⟩

-- laws.toHold
theorem toHold1_c {x : Hold} {H : AHeap} : ACd Try.prog 31 [.agg #[.int .i16 x.who, .int .i8 x.knot]] H (.agg #[.int .i16 x.who, .int .i8 x.knot]) (H) := by
  refine ac_gc0 (fun β => VR.plainT β (by first | rfl | simp [plainT, plainV, plain1])) (ac_body Try.func31 rfl Try.ntmps31 rfl ?_)
  refine aw_seq ?_
  refine aw_region ?_
  refine al_opd rfl rfl rfl (ao_boxa (by rfl)) ?_
  refine al_opd rfl rfl rfl (ao_alloca (zv54) (by rfl)) ?_
  refine al_nilT ?_
  refine aw_seq ?_
  refine aw_region ?_
  refine al_opd rfl rfl rfl (ao_alloca (zv54) (by rfl)) ?_
  refine al_nilT ?_
  refine aw_seq ?_
  refine aw_region ?_
  refine al_opd rfl rfl rfl (ao_fieldAddr fo_56_0 rfl) ?_
  refine al_opd rfl rfl rfl (ao_load (v := .int _ _) Try.isAgg22 (by rfl) (by exact HLp) (by rfl) (by exact RFp)) ?_
  refine al_opd rfl rfl rfl (ao_fieldAddr fo_54_0 rfl) ?_
  refine al_opd rfl rfl rfl ((ao_store1 (v := .int _ _) Try.sizeOf22 (by rfl) (by rfl) (by exact HLp) (by rfl) (by exact LTp)).to (SetR.eq (by exact SRp))) ?_
  refine al_nilT ?_
  refine aw_seq ?_
  refine aw_region ?_
  refine al_opd rfl rfl rfl (ao_fieldAddr fo_56_1 rfl) ?_
  refine al_opd rfl rfl rfl (ao_load (v := .int _ _) Try.isAgg52 (by rfl) (by exact HLp) (by rfl) (by exact RFp)) ?_
  refine al_opd rfl rfl rfl (ao_fieldAddr fo_54_1 rfl) ?_
  refine al_opd rfl rfl rfl ((ao_store1 (v := .int _ _) Try.sizeOf52 (by rfl) (by rfl) (by exact HLp) (by rfl) (by exact LTp)).to (SetR.eq (by exact SRp))) ?_
  refine al_nilT ?_
  refine aw_seq ?_
  refine aw_region ?_
  refine al_opd rfl rfl rfl (ao_loada Try.isAgg54 Try.sizeOf54 rfl (by exact HLp) (by rfl) (by exact RFp)) ?_
  first | refine al_opd rfl rfl rfl ((ao_storeL Try.sizeOf54 (by rfl) (by rfl) (by exact HLp) (by exact RFp) (by exact RFp) (by exact RFp)).to (SetR.eq (by exact SRp))) ?_ | refine al_opd rfl rfl rfl ((ao_storeP (ds := [.int _ _, .int _ _]) Try.sizeOf54 (by rfl) (by rfl) (by exact HLp) (by exact RFp) (by exact RFp) (by exact LTp)).to (SetR.eq (by exact SRp))) ?_
  refine al_nilT ?_
  refine aw_ret ?_
  refine ends1 rfl (rv_cella Try.isAgg54 Try.sizeOf54 rfl (by exact HLp) (by rfl) (by exact RFp)) ?_
  exact ⟨by first | rfl | (simp [*]; (first | done | fail)), by exact SMp⟩

-- laws.eqHoldS
theorem eqHoldS_c {v u : Value} {l m : List Hold} {H : AHeap} (ha : Sl H hold 2 v l) (hb : Sl H hold 2 u m) (hl : l.length ≤ 4194304) : ACd Try.prog 16 [v, u] H (.bool (decide (l = m))) (H) := by
  refine ac_gc0 (fun β => VR.plainT β (by first | rfl | simp [plainT, plainV, plain1])) (ac_body Try.func16 rfl Try.ntmps16 rfl ?_)
  refine aw_seq ?_
  refine aw_region ?_
  refine al_opd rfl rfl rfl (ao_as (v := .bool _) rfl) ?_
  refine al_nilT ?_
  refine aw_seq ?_
  refine aw_seq ?_
  refine aw_region ?_
  first | refine al_opd rfl rfl rfl (ao_mv (v := .slice _ _ _) rfl) ?_ | refine al_opd rfl rfl rfl (ao_mv (v := v) rfl) ?_ | refine al_opd rfl rfl rfl (ao_mv (v := u) rfl) ?_
  first | refine al_opd rfl rfl rfl (ao_lenS Try.underlying36 (by rfl)) ?_ | refine al_opd rfl rfl rfl (ao_lenN Try.underlying36 (by rfl)) ?_ | refine al_opd rfl rfl rfl (ao_lenV Try.underlying36 rfl ha) ?_ | refine al_opd rfl rfl rfl (ao_lenV Try.underlying36 rfl hb) ?_
  first | refine al_opd rfl rfl rfl (ao_mv (v := .slice _ _ _) rfl) ?_ | refine al_opd rfl rfl rfl (ao_mv (v := v) rfl) ?_ | refine al_opd rfl rfl rfl (ao_mv (v := u) rfl) ?_
  first | refine al_opd rfl rfl rfl (ao_lenS Try.underlying36 (by rfl)) ?_ | refine al_opd rfl rfl rfl (ao_lenN Try.underlying36 (by rfl)) ?_ | refine al_opd rfl rfl rfl (ao_lenV Try.underlying36 rfl ha) ?_ | refine al_opd rfl rfl rfl (ao_lenV Try.underlying36 rfl hb) ?_
  refine al_opd rfl rfl rfl (ao_neq rfl rfl) ?_
  refine al_nilT ?_
  refine aw_cond rfl (fun h1_ => ?_) (fun h1_ => ?_)
  · try simp only [nrm] at h1_
    refine aw_seq ?_
    refine aw_region ?_
    refine al_opd rfl rfl rfl (ao_as (v := .bool _) rfl) ?_
    refine al_nilT ?_
    refine aw_ret ?_
    refine thenA_r ?_
    refine ends1 rfl (rv_tmp (v := .bool _) rfl) ?_
    exact ⟨by rw [decide_eq_false (fun e => h1_ (by rw [e]))], by exact SMp⟩
  · try simp only [nrm] at h1_
    refine aw_skipT ?_
    refine aw_seq ?_
    refine aw_seq ?_
    refine aw_region ?_
    refine al_opd rfl rfl rfl (ao_as (v := .int _ _) rfl) ?_
    refine al_nilT ?_
    refine aw_block ?_
    refine aw_loop (fun (gk : Nat) (fr : AFr) (G : AHeap) => ∃ get : Nat → Value, fr = ⟨27, get⟩ ∧ (∃ i : Nat, i ≤ l.length ∧ gk = l.length - i ∧ G = H ∧ get 0 = v ∧ get 1 = u ∧ get 5 = .int .i64 i ∧ l.take i = m.take i)) (l.length) ⟨_, rfl, ?_⟩ ?_
    · exact ⟨0, Nat.zero_le _, rfl, rfl, rfl, rfl, rfl, by simp⟩
    · rintro gk fr G ⟨get, rfl, i, hi, rfl, rfl, g0, g1, g5, hq⟩
      have hlen : l.length = m.length := by omega
      refine aw_slot (d := 0) (v := v) (by first | assumption | rfl) ?_
      refine aw_slot (d := 1) (v := u) (by first | assumption | rfl) ?_
      refine aw_slot (d := 5) (v := .int .i64 i) (by first | assumption | rfl) ?_
      refine aw_seq ?_
      refine aw_seq ?_
      refine aw_region ?_
      refine al_opd rfl rfl rfl (ao_mv (v := .int _ _) rfl) ?_
      first | refine al_opd rfl rfl rfl (ao_mv (v := .slice _ _ _) rfl) ?_ | refine al_opd rfl rfl rfl (ao_mv (v := v) rfl) ?_ | refine al_opd rfl rfl rfl (ao_mv (v := u) rfl) ?_
      first | refine al_opd rfl rfl rfl (ao_lenS Try.underlying36 (by rfl)) ?_ | refine al_opd rfl rfl rfl (ao_lenN Try.underlying36 (by rfl)) ?_ | refine al_opd rfl rfl rfl (ao_lenV Try.underlying36 rfl ha) ?_ | refine al_opd rfl rfl rfl (ao_lenV Try.underlying36 rfl hb) ?_
      refine al_opd rfl rfl rfl (ao_lss rfl rfl) ?_
      refine al_nilT ?_
      refine aw_cond rfl (fun h2_ => ?_) (fun h2_ => ?_)
      · try simp only [nrm] at h2_
        obtain ⟨x, hx⟩ := get_lt (show i < l.length by omega)
        obtain ⟨y, hy⟩ := get_lt (show i < m.length by omega)
        refine aw_skipT ?_
        refine aw_seq ?_
        refine aw_block ?_
        refine aw_seq ?_
        refine aw_draw (m := 10) mo (by kernel_rfl) rfl (fun _ _ _ h => h) ?_
        first | refine dw_opd rfl rfl rfl (ao_mv (v := .slice _ _ _) rfl) ?_ | refine dw_opd rfl rfl rfl (ao_mv (v := v) rfl) ?_ | refine dw_opd rfl rfl rfl (ao_mv (v := u) rfl) ?_
        refine dw_opd rfl rfl rfl (ao_mv (v := .int _ _) rfl) ?_
        first | refine dw_opd rfl rfl rfl (ao_indexAddrS Try.underlying36 Try.sizeOf54 rfl rfl (by exact IXp) (by exact IXp)) ?_ | refine dw_opd rfl rfl rfl (ao_indexV Try.underlying36 Try.sizeOf54 rfl rfl ha (by exact IXp) (by exact IXp)) ?_ | refine dw_opd rfl rfl rfl (ao_indexV Try.underlying36 Try.sizeOf54 rfl rfl hb (by exact IXp) (by exact IXp)) ?_
        first | refine dw_opd rfl rfl rfl (ao_loada Try.isAgg54 Try.sizeOf54 rfl (by exact HLp) (by rfl) (by exact RFp)) ?_ | refine dw_opd rfl rfl rfl (ao_loadsV (A := #[.int _ _, .int _ _]) Try.isAgg54 Try.sizeOf54 ha rfl (by assumption) rfl (by decide)) ?_ | refine dw_opd rfl rfl rfl (ao_loadsV (A := #[.int _ _, .int _ _]) Try.isAgg54 Try.sizeOf54 hb rfl (by assumption) rfl (by decide)) ?_
        first | refine dw_opd rfl rfl rfl (ao_mv (v := .slice _ _ _) rfl) ?_ | refine dw_opd rfl rfl rfl (ao_mv (v := v) rfl) ?_ | refine dw_opd rfl rfl rfl (ao_mv (v := u) rfl) ?_
        refine dw_opd rfl rfl rfl (ao_mv (v := .int _ _) rfl) ?_
        first | refine dw_opd rfl rfl rfl (ao_indexAddrS Try.underlying36 Try.sizeOf54 rfl rfl (by exact IXp) (by exact IXp)) ?_ | refine dw_opd rfl rfl rfl (ao_indexV Try.underlying36 Try.sizeOf54 rfl rfl ha (by exact IXp) (by exact IXp)) ?_ | refine dw_opd rfl rfl rfl (ao_indexV Try.underlying36 Try.sizeOf54 rfl rfl hb (by exact IXp) (by exact IXp)) ?_
        first | refine dw_opd rfl rfl rfl (ao_loada Try.isAgg54 Try.sizeOf54 rfl (by exact HLp) (by rfl) (by exact RFp)) ?_ | refine dw_opd rfl rfl rfl (ao_loadsV (A := #[.int _ _, .int _ _]) Try.isAgg54 Try.sizeOf54 ha rfl (by assumption) rfl (by decide)) ?_ | refine dw_opd rfl rfl rfl (ao_loadsV (A := #[.int _ _, .int _ _]) Try.isAgg54 Try.sizeOf54 hb rfl (by assumption) rfl (by decide)) ?_
        refine dw_opd rfl rfl rfl (ao_calld (eqHold1_c (x := x) (y := y)) Try.call35 rfl rfl) ?_
        refine dw_opd rfl rfl rfl (ao_not rfl) ?_
        refine dw_end ?_
        refine al_nilT ?_
        refine aw_cond rfl (fun h3_ => ?_) (fun h3_ => ?_)
        · try simp only [nrm] at h3_
          refine aw_seq ?_
          refine aw_region ?_
          refine al_opd rfl rfl rfl (ao_as (v := .bool _) rfl) ?_
          refine al_nilT ?_
          refine aw_ret ?_
          refine blockA_r ?_
          refine thenA_r ?_
          refine thenA_r ?_
          refine blockA_r ?_
          refine thenA_r ?_
          refine ends1 rfl (rv_tmp (v := .bool _) rfl) ?_
          exact ⟨by rw [decide_eq_false (ne_at hx hy h3_)], by exact SMp⟩
        · try simp only [nrm] at h3_
          refine aw_skipB ?_
          refine thenA_n ?_
          refine aw_region ?_
          refine al_opd rfl rfl rfl (ao_mv (v := .int _ _) rfl) ?_
          first | refine al_opd rfl rfl rfl ((ao_add rfl rfl).val (nw_i64 BDp BDp)) ?_ | refine al_opd rfl rfl rfl (ao_add rfl rfl) ?_
          refine al_opd rfl rfl rfl (ao_as (v := .int _ _) rfl) ?_
          refine al_nilT ?_
          exact ⟨_, by omega, _, rfl, i + 1, by omega, rfl, rfl, rfl, rfl, by rfl, take_step hq hx (by rw [hy]; exact congrArg some h3_.symm)⟩
      · try simp only [nrm] at h2_
        refine aw_exit ?_
        refine thenA_x ?_
        refine thenA_x ?_
        refine blockA_hit ?_
        refine thenA_n ?_
        refine aw_seq ?_
        refine aw_region ?_
        refine al_opd rfl rfl rfl (ao_as (v := .bool _) rfl) ?_
        refine al_nilT ?_
        refine aw_ret ?_
        refine ends1 rfl (rv_tmp (v := .bool _) rfl) ?_
        exact ⟨by rw [decide_eq_true (take_all hq (by omega) hlen)], by exact SMp⟩

-- laws.toHoldS
theorem toHoldS_c {v : Value} {l : List Hold} {H : AHeap} (ha : Sl H hold 2 v l) (hl : l.length ≤ 4194304) : ACd Try.prog 14 [v] H ((.slice (some ⟨H.next, 0, none⟩) l.length l.length)) (H.push (.cells (fl hold l) 2)) := by
  refine ac_gcs (vrl_fl hold_plain l) (ac_body Try.func14 rfl Try.ntmps14 rfl ?_)
  refine aw_seq ?_
  refine aw_region ?_
  first | refine al_opd rfl rfl rfl (ao_as (v := .slice _ _ _) rfl) ?_ | refine al_opd rfl rfl rfl (ao_as (v := v) rfl) ?_
  refine al_nilT ?_
  refine aw_seq ?_
  refine aw_region ?_
  first | refine al_opd rfl rfl rfl (ao_mv (v := .slice _ _ _) rfl) ?_ | refine al_opd rfl rfl rfl (ao_mv (v := v) rfl) ?_
  first | refine al_opd rfl rfl rfl (ao_lenS Try.underlying34 (by rfl)) ?_ | refine al_opd rfl rfl rfl (ao_lenN Try.underlying34 (by rfl)) ?_ | refine al_opd rfl rfl rfl (ao_lenV Try.underlying34 rfl ha) ?_ | refine al_opd rfl rfl rfl (ao_lenV Try.underlying34 rfl hb) ?_
  refine al_opd rfl rfl rfl (ao_makeF (hold) (⟨0, 0⟩) Try.underlying36 elz54 (by rfl) (by decide) rfl rfl (by first | rfl | omega) (by exact IXp) (by exact IXp)) ?_
  first | refine al_opd rfl rfl rfl (ao_as (v := .slice _ _ _) rfl) ?_ | refine al_opd rfl rfl rfl (ao_as (v := v) rfl) ?_
  refine al_nilT ?_
  refine aw_seq ?_
  refine aw_seq ?_
  refine aw_region ?_
  refine al_opd rfl rfl rfl (ao_as (v := .int _ _) rfl) ?_
  refine al_nilT ?_
  refine aw_block ?_
  have hb : Sl (H.push (.cells (fl hold (List.replicate l.length ⟨0, 0⟩)) 2)) hold 2 v l := ha.mono (by exact SMp)
  refine aw_loop (fun (gk : Nat) (fr : AFr) (G : AHeap) => ∃ get : Nat → Value, fr = ⟨23, get⟩ ∧ (∃ (i : Nat) (z : List Hold), i ≤ l.length ∧ gk = l.length - i ∧ z.length = l.length ∧ z.take i = l.take i ∧ G = H.push (.cells (fl hold z) 2) ∧ get 0 = v ∧ get 3 = (.slice (some ⟨H.next, 0, none⟩) l.length l.length) ∧ get 4 = .int .i64 i)) (l.length) ⟨_, rfl, ?_⟩ ?_
  · exact ⟨0, _, Nat.zero_le _, rfl, by simp, by simp, rfl, rfl, rfl, rfl⟩
  · rintro gk fr G ⟨get, rfl, i, z, hi, rfl, hz, hq, rfl, g0, g3, g4⟩
    have hb : Sl (H.push (.cells (fl hold z) 2)) hold 2 v l := ha.mono (by exact SMp)
    refine aw_slot (d := 0) (v := v) (by first | assumption | rfl) ?_
    refine aw_slot (d := 3) (v := (.slice (some ⟨H.next, 0, none⟩) l.length l.length)) (by first | assumption | rfl) ?_
    refine aw_slot (d := 4) (v := .int .i64 i) (by first | assumption | rfl) ?_
    refine aw_seq ?_
    refine aw_seq ?_
    refine aw_region ?_
    refine al_opd rfl rfl rfl (ao_mv (v := .int _ _) rfl) ?_
    first | refine al_opd rfl rfl rfl (ao_mv (v := .slice _ _ _) rfl) ?_ | refine al_opd rfl rfl rfl (ao_mv (v := v) rfl) ?_
    first | refine al_opd rfl rfl rfl (ao_lenS Try.underlying34 (by rfl)) ?_ | refine al_opd rfl rfl rfl (ao_lenN Try.underlying34 (by rfl)) ?_ | refine al_opd rfl rfl rfl (ao_lenV Try.underlying34 rfl ha) ?_ | refine al_opd rfl rfl rfl (ao_lenV Try.underlying34 rfl hb) ?_
    refine al_opd rfl rfl rfl (ao_lss rfl rfl) ?_
    refine al_nilT ?_
    refine aw_cond rfl (fun h1_ => ?_) (fun h1_ => ?_)
    · try simp only [nrm] at h1_
      obtain ⟨x, hx⟩ := get_lt (show i < l.length by omega)
      refine aw_skipT ?_
      refine aw_seq ?_
      refine aw_block ?_
      refine aw_region ?_
      first | refine al_opd rfl rfl rfl (ao_mv (v := .slice _ _ _) rfl) ?_ | refine al_opd rfl rfl rfl (ao_mv (v := v) rfl) ?_
      refine al_opd rfl rfl rfl (ao_mv (v := .int _ _) rfl) ?_
      first | refine al_opd rfl rfl rfl (ao_mv (v := .slice _ _ _) rfl) ?_ | refine al_opd rfl rfl rfl (ao_mv (v := v) rfl) ?_
      refine al_opd rfl rfl rfl (ao_mv (v := .int _ _) rfl) ?_
      first | refine al_opd rfl rfl rfl (ao_indexAddrS Try.underlying34 Try.sizeOf56 rfl rfl (by exact IXp) (by exact IXp)) ?_ | refine al_opd rfl rfl rfl (ao_indexV Try.underlying34 Try.sizeOf56 rfl rfl ha (by exact IXp) (by exact IXp)) ?_ | refine al_opd rfl rfl rfl (ao_indexV Try.underlying34 Try.sizeOf56 rfl rfl hb (by exact IXp) (by exact IXp)) ?_
      first | refine al_opd rfl rfl rfl (ao_loada Try.isAgg56 Try.sizeOf56 rfl (by exact HLp) (by rfl) (by exact RFp)) ?_ | refine al_opd rfl rfl rfl (ao_loadsV (A := #[.int _ _, .int _ _]) Try.isAgg56 Try.sizeOf56 ha rfl (by assumption) rfl (by decide)) ?_ | refine al_opd rfl rfl rfl (ao_loadsV (A := #[.int _ _, .int _ _]) Try.isAgg56 Try.sizeOf56 hb rfl (by assumption) rfl (by decide)) ?_
      refine al_opd rfl rfl rfl (ao_calld (toHold1_c (x := x)) Try.call31 rfl rfl) ?_
      first | refine al_opd rfl rfl rfl (ao_indexAddrS Try.underlying36 Try.sizeOf54 rfl rfl (by exact IXp) (by exact IXp)) ?_ | refine al_opd rfl rfl rfl (ao_indexV Try.underlying36 Try.sizeOf54 rfl rfl ha (by exact IXp) (by exact IXp)) ?_ | refine al_opd rfl rfl rfl (ao_indexV Try.underlying36 Try.sizeOf54 rfl rfl hb (by exact IXp) (by exact IXp)) ?_
      first | refine al_opd rfl rfl rfl ((ao_storeL Try.sizeOf54 (by rfl) (by rfl) (by exact HLp) (by exact RFp) (by exact RFp) (by exact RFp)).to (SetR.eq (by exact SRp))) ?_ | refine al_opd rfl rfl rfl ((ao_storeP (ds := [.int _ _, .int _ _]) Try.sizeOf54 (by rfl) (by rfl) (by exact HLp) (by exact RFp) (by exact RFp) (by (rw [fl_len hold_len, hz]; simp; omega))).to (SetR.eq (by exact SRp))) ?_
      refine al_nilB ?_
      refine thenA_n ?_
      refine aw_region ?_
      refine al_opd rfl rfl rfl (ao_mv (v := .int _ _) rfl) ?_
      first | refine al_opd rfl rfl rfl ((ao_add rfl rfl).val (nw_i64 BDp BDp)) ?_ | refine al_opd rfl rfl rfl (ao_add rfl rfl) ?_
      refine al_opd rfl rfl rfl (ao_as (v := .int _ _) rfl) ?_
      refine al_nilT ?_
      exact ⟨_, by omega, _, rfl, i + 1, z.set i x, by omega, rfl, by simp [hz], take_setz hq hx (by omega), congrArg (fun c => H.push (.cells c 2)) (fl_setzL (y := x) hold_len (by omega)), rfl, rfl, by rfl⟩
    · try simp only [nrm] at h1_
      refine aw_exit ?_
      refine thenA_x ?_
      refine thenA_x ?_
      refine blockA_hit ?_
      refine thenA_n ?_
      refine aw_seq ?_
      refine aw_region ?_
      first | refine al_opd rfl rfl rfl (ao_mv (v := .slice _ _ _) rfl) ?_ | refine al_opd rfl rfl rfl (ao_mv (v := v) rfl) ?_
      first | refine al_opd rfl rfl rfl (ao_as (v := .slice _ _ _) rfl) ?_ | refine al_opd rfl rfl rfl (ao_as (v := v) rfl) ?_
      refine al_nilT ?_
      refine aw_ret ?_
      refine ends1 rfl (rv_tmp (v := .slice _ _ _) rfl) ?_
      exact ⟨by exact SMp, H.next, Nat.le_refl _, by rw [take_all hq (by omega) hz]; exact blk_push_new _ _, fun ρ h => vr_sl h (Nat.le_refl _) (fun _ => rfl)⟩

end Go.Proofs.Ytdcmjbaahcipoaa
