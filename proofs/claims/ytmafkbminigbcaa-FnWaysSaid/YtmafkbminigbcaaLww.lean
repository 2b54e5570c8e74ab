/- Contracts of the program's functions over abstract heaps. -/
import Derived.Test.YtmafkbminigbcaaBfs9
import Derived.Test.YtmafkbminigbcaaWs
import Derived.Test.YtmafkbminigbcaaRm
import Derived.Test.YtmafkbminigbcaaVr
import Derived.Test.YtmafkbminigbcaaRy
import Derived.Test.YtmafkbminigbcaaSb
import Derived.Test.YtmafkbminigbcaaNr
import Derived.Test.YtmafkbminigbcaaFf
import Derived.Test.YtmafkbminigbcaaWy3
import Derived.Test.YtmafkbminigbcaaWy5
import Derived.Test.YtmafkbminigbcaaSc
namespace Go.Proofs.Ytmafkbminigbcaa
open Go Go.AW Go.Proofs
set_option linter.unusedVariables false
set_option linter.unusedSimpArgs false
set_option maxRecDepth 100000
set_option maxHeartbeats 2000000

-- spec.l01Has
theorem l01Has_c {v : Value} {l : List Spot} {x : Spot} {H : AHeap} (hv : Sl H spot 2 v l) (hl : l.length ≤ 1000) : ACd Try.prog 41 [v, .agg #[.int .i8 x.x, .int .i8 x.y]] H (.bool (decide (x ∈ l))) (H) := by
  refine ac_gc0 (fun β => VR.plainT β (by first | rfl | simp [plainT, plainV, plain1])) (ac_body Try.func41 rfl Try.ntmps41 rfl ?_)
  refine aw_seq ?_
  refine aw_region ?_
  refine al_opd rfl rfl rfl (ao_boxa (by rfl)) ?_
  refine al_opd rfl rfl rfl (ao_as (v := .bool _) rfl) ?_
  refine al_nilT ?_
  refine aw_seq ?_
  refine aw_seq ?_
  refine aw_region ?_
  refine al_opd rfl rfl rfl (ao_as (v := .int _ _) rfl) ?_
  refine al_nilT ?_
  refine aw_block ?_
  refine aw_loop (fun (gk : Nat) (fr : AFr) (G : AHeap) => ∃ get : Nat → Value, fr = ⟨18, get⟩ ∧ (∃ i : Nat, i ≤ l.length ∧ gk = l.length - i ∧ G = H.push (.cells [.int .i8 x.x, .int .i8 x.y] 1) ∧ (∀ j : Nat, j < i → l[j]? ≠ some x) ∧ get 0 = v ∧ get 3 = .pointer (some ⟨H.next, 0, none⟩) ∧ get 5 = .int .i64 i)) (l.length) ⟨_, rfl, ?_⟩ ?_
  · exact ⟨0, Nat.zero_le _, rfl, rfl, fun j hj => absurd hj (Nat.not_lt_zero j), rfl, rfl, rfl⟩
  · rintro gk fr G ⟨get, rfl, i, hi, rfl, rfl, hno, g0, g3, g5⟩
    have hs1 : Sl (H.push (.cells [.int .i8 x.x, .int .i8 x.y] 1)) spot 2 v l := hv.mono (by exact SMp)
    refine aw_slot (d := 0) (v := v) (by first | assumption | rfl) ?_
    refine aw_slot (d := 3) (v := .pointer (some ⟨H.next, 0, none⟩)) (by first | assumption | rfl) ?_
    refine aw_slot (d := 5) (v := .int .i64 i) (by first | assumption | rfl) ?_
    refine aw_seq ?_
    refine aw_seq ?_
    refine aw_region ?_
    refine al_opd rfl rfl rfl (ao_mv (v := .int _ _) rfl) ?_
    first | refine al_opd rfl rfl rfl (ao_mv (v := .slice _ _ _) rfl) ?_ | refine al_opd rfl rfl rfl (ao_mv (v := v) rfl) ?_
    first | refine al_opd rfl rfl rfl (ao_lenS Try.underlying35 (by rfl)) ?_ | refine al_opd rfl rfl rfl (ao_lenN Try.underlying35 (by rfl)) ?_ | refine al_opd rfl rfl rfl (ao_lenV Try.underlying35 rfl hs1) ?_
    refine al_opd rfl rfl rfl (ao_lss rfl rfl) ?_
    refine al_nilT ?_
    refine aw_cond rfl (fun h1_ => ?_) (fun h1_ => ?_)
    · try simp only [nrm] at h1_
      obtain ⟨y, hy⟩ := get_lt (show i < l.length by omega)
      refine aw_skipT ?_
      refine aw_seq ?_
      refine aw_block ?_
      refine aw_seq ?_
      refine aw_draw (m := 6) mo (by kernel_rfl) rfl (fun _ _ _ h => h) ?_
      first | refine dw_opd rfl rfl rfl (ao_mv (v := .slice _ _ _) rfl) ?_ | refine dw_opd rfl rfl rfl (ao_mv (v := v) rfl) ?_
      refine dw_opd rfl rfl rfl (ao_mv (v := .int _ _) rfl) ?_
      first | refine dw_opd rfl rfl rfl (ao_indexAddrS Try.underlying35 Try.sizeOf31 rfl rfl (by exact IXp) (by exact IXp)) ?_ | refine dw_opd rfl rfl rfl (ao_indexV Try.underlying35 Try.sizeOf31 rfl rfl hs1 (by exact IXp) (by exact IXp)) ?_
      first | refine dw_opd rfl rfl rfl (ao_loada Try.isAgg31 Try.sizeOf31 rfl (by exact HLp) (by rfl) (by exact RFp)) ?_ | refine dw_opd rfl rfl rfl (ao_loadsV (A := #[.int _ _, .int _ _]) Try.isAgg31 Try.sizeOf31 hs1 rfl hy rfl (by decide)) ?_
      first | refine dw_opd rfl rfl rfl (ao_loada Try.isAgg31 Try.sizeOf31 rfl (by exact HLp) (by rfl) (by exact RFp)) ?_ | refine dw_opd rfl rfl rfl (ao_loadsV (A := #[.int _ _, .int _ _]) Try.isAgg31 Try.sizeOf31 hs1 rfl hy rfl (by decide)) ?_
      refine dw_opd rfl rfl rfl (ao_eqV Try.eqGuardType31 rfl rfl rfl rfl (eqS31 _ _ _ _)) ?_
      refine dw_end ?_
      refine al_nilT ?_
      refine aw_cond rfl (fun h2_ => ?_) (fun h2_ => ?_)
      · try simp only [nrm] at h2_
        refine aw_seq ?_
        refine aw_region ?_
        refine al_opd rfl rfl rfl (ao_as (v := .bool _) rfl) ?_
        refine al_nilT ?_
        refine aw_ret ?_
        refine blockA_r ?_
        refine thenA_r ?_
        refine thenA_r ?_
        refine blockA_r ?_
        refine thenA_r ?_
        refine ends1 rfl (rv_tmp (v := .bool _) rfl) ?_
        exact ⟨by rw [decide_eq_true (by rw [← spot_ext h2_.1 h2_.2]; exact List.mem_of_getElem? hy)], by exact SMp⟩
      · try simp only [nrm] at h2_
        refine aw_skipB ?_
        refine thenA_n ?_
        refine aw_region ?_
        refine al_opd rfl rfl rfl (ao_mv (v := .int _ _) rfl) ?_
        first | refine al_opd rfl rfl rfl ((ao_add rfl rfl).val (nw_i64 BDp BDp)) ?_ | refine al_opd rfl rfl rfl (ao_add rfl rfl) ?_
        refine al_opd rfl rfl rfl (ao_as (v := .int _ _) rfl) ?_
        refine al_nilT ?_
        exact ⟨_, by omega, _, rfl, i + 1, by omega, rfl, rfl, snoc_no hno hy h2_, rfl, rfl, by rfl⟩
    · try simp only [nrm] at h1_
      refine aw_exit ?_
      refine thenA_x ?_
      refine thenA_x ?_
      refine blockA_hit ?_
      refine thenA_n ?_
      refine aw_seq ?_
      refine aw_region ?_
      refine al_opd rfl rfl rfl (ao_as (v := .bool _) rfl) ?_
      refine al_nilT ?_
      refine aw_ret ?_
      refine ends1 rfl (rv_tmp (v := .bool _) rfl) ?_
      have hnm : ¬ x ∈ l := fun hm => (by obtain ⟨j, hj, e⟩ := List.getElem_of_mem hm; exact hno j (by omega) (by rw [List.getElem?_eq_getElem hj, e]))
      exact ⟨by rw [decide_eq_false hnm], by exact SMp⟩

theorem stepsI_c {r : Room} {a b : Spot} {H : AHeap} (hr : okRoom r) (hw : wfRoom r) (hfa : isFree r a) (hfb : isFree r b) : ACd Try.prog 7 [.agg (roomC r).toArray, .agg #[.int .i8 a.x, .int .i8 a.y], .agg #[.int .i8 b.x, .int .i8 b.y]] H (.tuple #[.int .i64 (stepV r a b), .int .i64 (stepQ r a b)]) H := by
  cases hv : mget (found r a) b with
  | some v => rw [(step_some hv).1, (step_some hv).2]; exact implSteps1b_c hw (wf_of_free hfa) (wf_of_free hfb) (two_free hr hfa hfb) hv
  | none => rw [(step_none hv).1, (step_none hv).2]; exact implSteps6b_c hw (wf_of_free hfa) (wf_of_free hfb) (two_free hr hfa hfb) hv

theorem stepsS_c {r : Room} {a b : Spot} {H : AHeap} (hr : okRoom r) (hw : wfRoom r) (hfa : isFree r a) (hfb : isFree r b) : ACd Try.prog 8 [.agg (roomC r).toArray, .agg #[.int .i8 a.x, .int .i8 a.y], .agg #[.int .i8 b.x, .int .i8 b.y]] H (.tuple #[.int .i64 (stepV r a b), .int .i64 (stepQ r a b)]) H := by
  cases hv : mget (found r a) b with
  | some v => rw [(step_some hv).1, (step_some hv).2]; exact specSteps1_c hw (wf_of_free hfa) (wf_of_free hfb) (two_free hr hfa hfb) hv
  | none => rw [(step_none hv).1, (step_none hv).2]; exact specSteps6_c hw (wf_of_free hfa) (wf_of_free hfb) (two_free hr hfa hfb) hv

theorem wayI_c {r : Room} {a b : Spot} {H : AHeap} (hr : okRoom r) (hw : wfRoom r) (hfa : isFree r a) (hfb : isFree r b) : AC Try.prog 9 [.agg (roomC r).toArray, .agg #[.int .i8 a.x, .int .i8 a.y], .agg #[.int .i8 b.x, .int .i8 b.y]] H (fun v' H' => ∃ u, v' = .tuple #[u, .int .i64 (stepQ r a b)] ∧ Sl H' spot 2 u (wayU r a b) ∧ Same H.next H H' ∧ H.next ≤ H'.next) := by
  cases hv : mget (found r a) b with
  | some v =>
    refine (implWay1_c hw (wf_of_free hfa) (wf_of_free hfb) (two_free hr hfa hfb) hv).mono ?_
    rintro v' H' ⟨rfl, rfl⟩
    exact ⟨_, by rw [(step_some hv).2], by rw [wayU_some hv]; exact Sl.full spot_len (blk_push_new _ _) rfl rfl rfl, (Same.refl _ _).push (Nat.le_refl _) _, Nat.le_succ _⟩
  | none =>
    refine (implWay6_c hw (wf_of_free hfa) (wf_of_free hfb) (two_free hr hfa hfb) hv).mono ?_
    rintro v' H' ⟨rfl, rfl⟩
    exact ⟨_, by rw [(step_none hv).2], by rw [wayU_none hv]; exact Sl.nil, Same.refl _ _, Nat.le_refl _⟩

theorem wayS_c {r : Room} {a b : Spot} {H : AHeap} (hr : okRoom r) (hw : wfRoom r) (hfa : isFree r a) (hfb : isFree r b) : AC Try.prog 10 [.agg (roomC r).toArray, .agg #[.int .i8 a.x, .int .i8 a.y], .agg #[.int .i8 b.x, .int .i8 b.y]] H (fun v' H' => ∃ u, v' = .tuple #[u, .int .i64 (stepQ r a b)] ∧ Sl H' spot 2 u (wayU r a b) ∧ Same H.next H H' ∧ H.next ≤ H'.next) := by
  cases hv : mget (found r a) b with
  | some v =>
    refine (specWay1_c hw (wf_of_free hfa) (wf_of_free hfb) (two_free hr hfa hfb) (found_symm hfa hv)).mono ?_
    rintro v' H' ⟨rfl, rfl⟩
    exact ⟨_, by rw [(step_some hv).2], by rw [wayU_some hv]; exact Sl.full spot_len (blk_push_new _ _) rfl rfl rfl, (Same.refl _ _).push (Nat.le_refl _) _, Nat.le_succ _⟩
  | none =>
    refine (specWay6_c hw (wf_of_free hfa) (wf_of_free hfb) (two_free hr hfa hfb) (found_symm_no hfb hv)).mono ?_
    rintro v' H' ⟨rfl, rfl⟩
    exact ⟨_, by rw [(step_none hv).2], by rw [wayU_none hv]; exact Sl.zero, (Same.refl _ _).push (Nat.le_refl _) _, Nat.le_succ _⟩

-- spec.A2HasSpot
theorem a2has_c {v : Value} {l : List Spot} {x : Spot} {H : AHeap} (hv : Sl H spot 2 v l) (hl : l.length ≤ 1000) : ACd Try.prog 13 [v, .agg #[.int .i8 x.x, .int .i8 x.y]] H (.bool (decide (x ∈ l))) (H) := by
  refine ac_gc0 (fun β => VR.plainT β (by first | rfl | simp [plainT, plainV, plain1])) (ac_body Try.func13 rfl Try.ntmps13 rfl ?_)
  refine aw_seq ?_
  refine aw_region ?_
  refine al_opd rfl rfl rfl (ao_boxa (by rfl)) ?_
  refine al_opd rfl rfl rfl (ao_as (v := .bool _) rfl) ?_
  refine al_nilT ?_
  refine aw_seq ?_
  refine aw_region ?_
  first | refine al_opd rfl rfl rfl (ao_mv (v := .slice _ _ _) rfl) ?_ | refine al_opd rfl rfl rfl (ao_mv (v := v) rfl) ?_
  refine al_opd rfl rfl rfl (ao_loada Try.isAgg31 Try.sizeOf31 rfl (by exact HLp) (by rfl) (by exact RFp)) ?_
  refine al_opd rfl rfl rfl (ao_calld (l01Has_c (l := l) (x := x) (hv.mono (by exact SMp)) hl) Try.call41 rfl rfl) ?_
  refine al_opd rfl rfl rfl (ao_as (v := .bool _) rfl) ?_
  refine al_nilT ?_
  refine aw_ret ?_
  refine ends1 rfl (rv_tmp (v := .bool _) rfl) ?_
  exact ⟨by first | rfl | (simp [*]; (first | done | fail)), by exact SMp⟩

-- laws.FnWays
set_option maxHeartbeats 20000000 in
theorem lawWays1_c {cv du : Value} {l m : List Int} {H : AHeap} (hc : Sl H u8 1 cv l) (hd : Sl H u8 1 du m) (hb : ∀ x ∈ l, 0 ≤ x ∧ x ≤ 255) (he : ∀ x ∈ m, 0 ≤ x ∧ x ≤ 255) : ACd Try.prog 3 [cv, du] H (.bool true) (H) := by
  refine ac_gc0 (fun β => VR.plainT β (by first | rfl | simp [plainT, plainV, plain1])) (ac_body Try.func3 rfl Try.ntmps3 rfl ?_)
  refine aw_seq ?_
  refine aw_region ?_
  refine al_opd rfl rfl rfl (ao_as (v := .bool _) rfl) ?_
  refine al_nilT ?_
  refine aw_seq ?_
  refine aw_seq ?_
  refine aw_region ?_
  first | refine al_opd rfl rfl rfl (ao_mv (v := .slice _ _ _) rfl) ?_ | refine al_opd rfl rfl rfl (ao_mv (v := cv) rfl) ?_ | refine al_opd rfl rfl rfl (ao_mv (v := du) rfl) ?_ | refine al_opd rfl rfl rfl (ao_mv (v := u1) rfl) ?_ | refine al_opd rfl rfl rfl (ao_mv (v := u2) rfl) ?_
  first | refine al_opd rfl rfl rfl (ao_mv (v := .slice _ _ _) rfl) ?_ | refine al_opd rfl rfl rfl (ao_mv (v := cv) rfl) ?_ | refine al_opd rfl rfl rfl (ao_mv (v := du) rfl) ?_ | refine al_opd rfl rfl rfl (ao_mv (v := u1) rfl) ?_ | refine al_opd rfl rfl rfl (ao_mv (v := u2) rfl) ?_
  refine al_opd rfl rfl rfl (ao_calld (a2Long_c hc hd) Try.call4 rfl rfl) ?_
  refine al_nilT ?_
  refine aw_cond rfl (fun h1_ => ?_) (fun h1_ => ?_)
  · try simp only [nrm] at h1_
    refine aw_seq ?_
    refine aw_region ?_
    refine al_opd rfl rfl rfl (ao_as (v := .bool _) rfl) ?_
    refine al_nilT ?_
    refine aw_ret ?_
    refine thenA_r ?_
    refine ends1 rfl (rv_tmp (v := .bool _) rfl) ?_
    exact ⟨by first | rfl | (simp [*]; (first | done | fail)), by exact SMp⟩
  · try simp only [nrm] at h1_
    refine aw_skipT ?_
    refine aw_seq ?_
    refine aw_region ?_
    first | refine al_opd rfl rfl rfl (ao_mv (v := .slice _ _ _) rfl) ?_ | refine al_opd rfl rfl rfl (ao_mv (v := cv) rfl) ?_ | refine al_opd rfl rfl rfl (ao_mv (v := du) rfl) ?_ | refine al_opd rfl rfl rfl (ao_mv (v := u1) rfl) ?_ | refine al_opd rfl rfl rfl (ao_mv (v := u2) rfl) ?_
    refine al_op rfl rfl rfl (ao_call Try.call5 rfl (a2room_c (l := l) hc hb (by omega)) rfl) ?_
    rintro _ H1 ⟨r, rfl, hr, hw, hfr, hs1, hn1⟩
    refine al_opd rfl rfl rfl (ao_alloca (zv28) (by rfl)) ?_
    first | refine al_opd rfl rfl rfl ((ao_storeL Try.sizeOf28 (by rfl) (by rfl) (by exact HLp) (by first | rfl | exact four_get _ _ (by omega) | (simp; (first | done | fail))) (by first | rfl | exact four_get _ _ (by omega) | (simp; (first | done | fail))) (by first | rfl | exact four_get _ _ (by omega) | (simp; (first | done | fail)))).to (SetR.eq (by exact SRp))) ?_ | refine al_opd rfl rfl rfl ((ao_storeP (ds := [.int _ _, .int _ _, .int _ _, .int _ _, .int _ _, .int _ _, .int _ _, .int _ _, .int _ _, .int _ _, .int _ _, .int _ _]) Try.sizeOf28 (by rfl) (by rfl) (by exact HLp) (by first | rfl | exact four_get _ _ (by omega) | (simp; (first | done | fail))) (by first | rfl | exact four_get _ _ (by omega) | (simp; (first | done | fail))) (by exact LTp)).to (SetR.eq (by exact SRp))) ?_
    refine al_nilT ?_
    refine aw_seq ?_
    refine aw_region ?_
    first | refine al_opd rfl rfl rfl (ao_mv (v := .slice _ _ _) rfl) ?_ | refine al_opd rfl rfl rfl (ao_mv (v := cv) rfl) ?_ | refine al_opd rfl rfl rfl (ao_mv (v := du) rfl) ?_ | refine al_opd rfl rfl rfl (ao_mv (v := u1) rfl) ?_ | refine al_opd rfl rfl rfl (ao_mv (v := u2) rfl) ?_
    first | refine al_opd rfl rfl rfl (ao_loada Try.isAgg28 Try.sizeOf28 rfl (by exact HLp) (by rfl) (by first | rfl | exact four_get _ _ (by omega) | (simp; (first | done | fail)))) ?_ | refine al_opd rfl rfl rfl (ao_loadsV (A := #[.int _ _, .int _ _, .int _ _, .int _ _, .int _ _, .int _ _, .int _ _, .int _ _, .int _ _, .int _ _, .int _ _, .int _ _]) Try.isAgg28 Try.sizeOf28 hu2x rfl hx0 rfl (by decide)) ?_ | refine al_opd rfl rfl rfl (ao_loadsV (A := #[.int _ _, .int _ _, .int _ _, .int _ _, .int _ _, .int _ _, .int _ _, .int _ _, .int _ _, .int _ _, .int _ _, .int _ _]) Try.isAgg28 Try.sizeOf28 hu2x rfl hxl rfl (by decide)) ?_ | refine al_opd rfl rfl rfl (ao_loadsV (A := #[.int _ _, .int _ _, .int _ _, .int _ _, .int _ _, .int _ _, .int _ _, .int _ _, .int _ _, .int _ _, .int _ _, .int _ _]) Try.isAgg28 Try.sizeOf28 hu2x rfl hxp rfl (by decide)) ?_ | refine al_opd rfl rfl rfl (ao_loadsV (A := #[.int _ _, .int _ _, .int _ _, .int _ _, .int _ _, .int _ _, .int _ _, .int _ _, .int _ _, .int _ _, .int _ _, .int _ _]) Try.isAgg28 Try.sizeOf28 hu2x rfl hxc rfl (by decide)) ?_ | refine al_opd rfl rfl rfl (ao_loadsV (A := #[.int _ _, .int _ _, .int _ _, .int _ _, .int _ _, .int _ _, .int _ _, .int _ _, .int _ _, .int _ _, .int _ _, .int _ _]) Try.isAgg28 Try.sizeOf28 hu1x rfl hx0 rfl (by decide)) ?_ | refine al_opd rfl rfl rfl (ao_loadsV (A := #[.int _ _, .int _ _, .int _ _, .int _ _, .int _ _, .int _ _, .int _ _, .int _ _, .int _ _, .int _ _, .int _ _, .int _ _]) Try.isAgg28 Try.sizeOf28 hu1x rfl hxl rfl (by decide)) ?_ | refine al_opd rfl rfl rfl (ao_loadsV (A := #[.int _ _, .int _ _, .int _ _, .int _ _, .int _ _, .int _ _, .int _ _, .int _ _, .int _ _, .int _ _, .int _ _, .int _ _]) Try.isAgg28 Try.sizeOf28 hu1x rfl hxp rfl (by decide)) ?_ | refine al_opd rfl rfl rfl (ao_loadsV (A := #[.int _ _, .int _ _, .int _ _, .int _ _, .int _ _, .int _ _, .int _ _, .int _ _, .int _ _, .int _ _, .int _ _, .int _ _]) Try.isAgg28 Try.sizeOf28 hu1x rfl hxc rfl (by decide)) ?_
    refine al_op rfl rfl rfl (ao_call Try.call6 rfl (a2free_c (l := l) (hc.mono (by exact SMp)) hb (by omega) hr hw hfr) rfl) ?_
    rintro _ H2 ⟨a, rfl, hfa, hs2, hn2⟩
    simp only [next_push] at hn2
    have hS2 : Same H.next H H2 := Same.trans (by exact SMp) hs2 (by exact LEp)
    have hb5 : H2.blk H1.next = some (.cells (roomC r) 1) := (hs2 _ (by exact LNp)).trans (by exact HLp)
    refine al_opd rfl rfl rfl (ao_alloca (zv31) (by rfl)) ?_
    first | refine al_opd rfl rfl rfl ((ao_storeL Try.sizeOf31 (by rfl) (by rfl) (by exact HLp) (by first | rfl | exact four_get _ _ (by omega) | (simp; (first | done | fail))) (by first | rfl | exact four_get _ _ (by omega) | (simp; (first | done | fail))) (by first | rfl | exact four_get _ _ (by omega) | (simp; (first | done | fail)))).to (SetR.eq (by exact SRp))) ?_ | refine al_opd rfl rfl rfl ((ao_storeP (ds := [.int _ _, .int _ _]) Try.sizeOf31 (by rfl) (by rfl) (by exact HLp) (by first | rfl | exact four_get _ _ (by omega) | (simp; (first | done | fail))) (by first | rfl | exact four_get _ _ (by omega) | (simp; (first | done | fail))) (by exact LTp)).to (SetR.eq (by exact SRp))) ?_
    refine al_nilT ?_
    refine aw_seq ?_
    refine aw_region ?_
    first | refine al_opd rfl rfl rfl (ao_mv (v := .slice _ _ _) rfl) ?_ | refine al_opd rfl rfl rfl (ao_mv (v := cv) rfl) ?_ | refine al_opd rfl rfl rfl (ao_mv (v := du) rfl) ?_ | refine al_opd rfl rfl rfl (ao_mv (v := u1) rfl) ?_ | refine al_opd rfl rfl rfl (ao_mv (v := u2) rfl) ?_
    first | refine al_opd rfl rfl rfl (ao_loada Try.isAgg28 Try.sizeOf28 rfl (by exact HLp) (by rfl) (by first | rfl | exact four_get _ _ (by omega) | (simp; (first | done | fail)))) ?_ | refine al_opd rfl rfl rfl (ao_loadsV (A := #[.int _ _, .int _ _, .int _ _, .int _ _, .int _ _, .int _ _, .int _ _, .int _ _, .int _ _, .int _ _, .int _ _, .int _ _]) Try.isAgg28 Try.sizeOf28 hu2x rfl hx0 rfl (by decide)) ?_ | refine al_opd rfl rfl rfl (ao_loadsV (A := #[.int _ _, .int _ _, .int _ _, .int _ _, .int _ _, .int _ _, .int _ _, .int _ _, .int _ _, .int _ _, .int _ _, .int _ _]) Try.isAgg28 Try.sizeOf28 hu2x rfl hxl rfl (by decide)) ?_ | refine al_opd rfl rfl rfl (ao_loadsV (A := #[.int _ _, .int _ _, .int _ _, .int _ _, .int _ _, .int _ _, .int _ _, .int _ _, .int _ _, .int _ _, .int _ _, .int _ _]) Try.isAgg28 Try.sizeOf28 hu2x rfl hxp rfl (by decide)) ?_ | refine al_opd rfl rfl rfl (ao_loadsV (A := #[.int _ _, .int _ _, .int _ _, .int _ _, .int _ _, .int _ _, .int _ _, .int _ _, .int _ _, .int _ _, .int _ _, .int _ _]) Try.isAgg28 Try.sizeOf28 hu2x rfl hxc rfl (by decide)) ?_ | refine al_opd rfl rfl rfl (ao_loadsV (A := #[.int _ _, .int _ _, .int _ _, .int _ _, .int _ _, .int _ _, .int _ _, .int _ _, .int _ _, .int _ _, .int _ _, .int _ _]) Try.isAgg28 Try.sizeOf28 hu1x rfl hx0 rfl (by decide)) ?_ | refine al_opd rfl rfl rfl (ao_loadsV (A := #[.int _ _, .int _ _, .int _ _, .int _ _, .int _ _, .int _ _, .int _ _, .int _ _, .int _ _, .int _ _, .int _ _, .int _ _]) Try.isAgg28 Try.sizeOf28 hu1x rfl hxl rfl (by decide)) ?_ | refine al_opd rfl rfl rfl (ao_loadsV (A := #[.int _ _, .int _ _, .int _ _, .int _ _, .int _ _, .int _ _, .int _ _, .int _ _, .int _ _, .int _ _, .int _ _, .int _ _]) Try.isAgg28 Try.sizeOf28 hu1x rfl hxp rfl (by decide)) ?_ | refine al_opd rfl rfl rfl (ao_loadsV (A := #[.int _ _, .int _ _, .int _ _, .int _ _, .int _ _, .int _ _, .int _ _, .int _ _, .int _ _, .int _ _, .int _ _, .int _ _]) Try.isAgg28 Try.sizeOf28 hu1x rfl hxc rfl (by decide)) ?_
    refine al_op rfl rfl rfl (ao_call Try.call6 rfl (a2free_c (l := m) (hd.mono (by exact SMp)) he (by omega) hr hw hfr) rfl) ?_
    rintro _ H3 ⟨b, rfl, hfb, hs3, hn3⟩
    simp only [next_push] at hn3
    have hS3 : Same H.next H H3 := Same.trans (by exact SMp) hs3 (by exact LEp)
    have hb5' : H3.blk H1.next = some (.cells (roomC r) 1) := (hs3 _ (by exact LNp)).trans (by exact HLp)
    have hb6 : H3.blk H2.next = some (.cells (spot a) 1) := (hs3 _ (by exact LNp)).trans (by exact HLp)
    refine al_opd rfl rfl rfl (ao_alloca (zv31) (by rfl)) ?_
    first | refine al_opd rfl rfl rfl ((ao_storeL Try.sizeOf31 (by rfl) (by rfl) (by exact HLp) (by first | rfl | exact four_get _ _ (by omega) | (simp; (first | done | fail))) (by first | rfl | exact four_get _ _ (by omega) | (simp; (first | done | fail))) (by first | rfl | exact four_get _ _ (by omega) | (simp; (first | done | fail)))).to (SetR.eq (by exact SRp))) ?_ | refine al_opd rfl rfl rfl ((ao_storeP (ds := [.int _ _, .int _ _]) Try.sizeOf31 (by rfl) (by rfl) (by exact HLp) (by first | rfl | exact four_get _ _ (by omega) | (simp; (first | done | fail))) (by first | rfl | exact four_get _ _ (by omega) | (simp; (first | done | fail))) (by exact LTp)).to (SetR.eq (by exact SRp))) ?_
    refine al_nilT ?_
    refine aw_seq ?_
    refine aw_gen (J := fun (fr : AFr) (G : AHeap) => ∃ get : Nat → Value, fr = ⟨343, get⟩ ∧ ∃ (b5 b6 b7 : Nat), Same H.next H G ∧ G.blk b5 = some (.cells (roomC r) 1) ∧ G.blk b6 = some (.cells (spot a) 1) ∧ G.blk b7 = some (.cells (spot b) 1) ∧ b5 < G.next ∧ b6 < G.next ∧ b7 < G.next ∧ H.next ≤ G.next ∧ get 5 = .pointer (some ⟨b5, 0, none⟩) ∧ get 6 = .pointer (some ⟨b6, 0, none⟩) ∧ get 7 = .pointer (some ⟨b7, 0, none⟩)) ⟨_, rfl, H1.next, H2.next, H3.next, by exact SMp, by exact HLp, by exact HLp, by exact HLp, by exact LNp, by exact LNp, by exact LNp, by exact LEp, rfl, rfl, rfl⟩ ?_
    rintro fr G ⟨get, rfl, b5, b6, b7, hG, hp5, hp6, hp7, hl5, hl6, hl7, hge, g5, g6, g7⟩
    have hsy := step_sym (r := r) hfa hfb
    have hso := step_or r a b
    have hsl := step_le (b := b) hfa
    have hwu := wayU_le (b := b) hfa
    have hnl := nearL_le 100 hfa
    have hfd := farD_le hfa
    obtain ⟨g, hg⟩ := exists_rays r a
    refine aw_slot (d := 5) (v := .pointer (some ⟨b5, 0, none⟩)) g5 ?_
    refine aw_slot (d := 6) (v := .pointer (some ⟨b6, 0, none⟩)) g6 ?_
    refine aw_slot (d := 7) (v := .pointer (some ⟨b7, 0, none⟩)) g7 ?_
    refine aw_region ?_
    first | refine al_opd rfl rfl rfl (ao_loada Try.isAgg28 Try.sizeOf28 rfl (by exact HLp) (by rfl) (by first | rfl | exact four_get _ _ (by omega) | (simp; (first | done | fail)))) ?_ | refine al_opd rfl rfl rfl (ao_loadsV (A := #[.int _ _, .int _ _, .int _ _, .int _ _, .int _ _, .int _ _, .int _ _, .int _ _, .int _ _, .int _ _, .int _ _, .int _ _]) Try.isAgg28 Try.sizeOf28 hu2x rfl hx0 rfl (by decide)) ?_ | refine al_opd rfl rfl rfl (ao_loadsV (A := #[.int _ _, .int _ _, .int _ _, .int _ _, .int _ _, .int _ _, .int _ _, .int _ _, .int _ _, .int _ _, .int _ _, .int _ _]) Try.isAgg28 Try.sizeOf28 hu2x rfl hxl rfl (by decide)) ?_ | refine al_opd rfl rfl rfl (ao_loadsV (A := #[.int _ _, .int _ _, .int _ _, .int _ _, .int _ _, .int _ _, .int _ _, .int _ _, .int _ _, .int _ _, .int _ _, .int _ _]) Try.isAgg28 Try.sizeOf28 hu2x rfl hxp rfl (by decide)) ?_ | refine al_opd rfl rfl rfl (ao_loadsV (A := #[.int _ _, .int _ _, .int _ _, .int _ _, .int _ _, .int _ _, .int _ _, .int _ _, .int _ _, .int _ _, .int _ _, .int _ _]) Try.isAgg28 Try.sizeOf28 hu2x rfl hxc rfl (by decide)) ?_ | refine al_opd rfl rfl rfl (ao_loadsV (A := #[.int _ _, .int _ _, .int _ _, .int _ _, .int _ _, .int _ _, .int _ _, .int _ _, .int _ _, .int _ _, .int _ _, .int _ _]) Try.isAgg28 Try.sizeOf28 hu1x rfl hx0 rfl (by decide)) ?_ | refine al_opd rfl rfl rfl (ao_loadsV (A := #[.int _ _, .int _ _, .int _ _, .int _ _, .int _ _, .int _ _, .int _ _, .int _ _, .int _ _, .int _ _, .int _ _, .int _ _]) Try.isAgg28 Try.sizeOf28 hu1x rfl hxl rfl (by decide)) ?_ | refine al_opd rfl rfl rfl (ao_loadsV (A := #[.int _ _, .int _ _, .int _ _, .int _ _, .int _ _, .int _ _, .int _ _, .int _ _, .int _ _, .int _ _, .int _ _, .int _ _]) Try.isAgg28 Try.sizeOf28 hu1x rfl hxp rfl (by decide)) ?_ | refine al_opd rfl rfl rfl (ao_loadsV (A := #[.int _ _, .int _ _, .int _ _, .int _ _, .int _ _, .int _ _, .int _ _, .int _ _, .int _ _, .int _ _, .int _ _, .int _ _]) Try.isAgg28 Try.sizeOf28 hu1x rfl hxc rfl (by decide)) ?_
    first | refine al_opd rfl rfl rfl (ao_loada Try.isAgg31 Try.sizeOf31 rfl (by exact HLp) (by rfl) (by first | rfl | exact four_get _ _ (by omega) | (simp; (first | done | fail)))) ?_ | refine al_opd rfl rfl rfl (ao_loadsV (A := #[.int _ _, .int _ _]) Try.isAgg31 Try.sizeOf31 hu2x rfl hx0 rfl (by decide)) ?_ | refine al_opd rfl rfl rfl (ao_loadsV (A := #[.int _ _, .int _ _]) Try.isAgg31 Try.sizeOf31 hu2x rfl hxl rfl (by decide)) ?_ | refine al_opd rfl rfl rfl (ao_loadsV (A := #[.int _ _, .int _ _]) Try.isAgg31 Try.sizeOf31 hu2x rfl hxp rfl (by decide)) ?_ | refine al_opd rfl rfl rfl (ao_loadsV (A := #[.int _ _, .int _ _]) Try.isAgg31 Try.sizeOf31 hu2x rfl hxc rfl (by decide)) ?_ | refine al_opd rfl rfl rfl (ao_loadsV (A := #[.int _ _, .int _ _]) Try.isAgg31 Try.sizeOf31 hu1x rfl hx0 rfl (by decide)) ?_ | refine al_opd rfl rfl rfl (ao_loadsV (A := #[.int _ _, .int _ _]) Try.isAgg31 Try.sizeOf31 hu1x rfl hxl rfl (by decide)) ?_ | refine al_opd rfl rfl rfl (ao_loadsV (A := #[.int _ _, .int _ _]) Try.isAgg31 Try.sizeOf31 hu1x rfl hxp rfl (by decide)) ?_ | refine al_opd rfl rfl rfl (ao_loadsV (A := #[.int _ _, .int _ _]) Try.isAgg31 Try.sizeOf31 hu1x rfl hxc rfl (by decide)) ?_
    first | refine al_opd rfl rfl rfl (ao_loada Try.isAgg31 Try.sizeOf31 rfl (by exact HLp) (by rfl) (by first | rfl | exact four_get _ _ (by omega) | (simp; (first | done | fail)))) ?_ | refine al_opd rfl rfl rfl (ao_loadsV (A := #[.int _ _, .int _ _]) Try.isAgg31 Try.sizeOf31 hu2x rfl hx0 rfl (by decide)) ?_ | refine al_opd rfl rfl rfl (ao_loadsV (A := #[.int _ _, .int _ _]) Try.isAgg31 Try.sizeOf31 hu2x rfl hxl rfl (by decide)) ?_ | refine al_opd rfl rfl rfl (ao_loadsV (A := #[.int _ _, .int _ _]) Try.isAgg31 Try.sizeOf31 hu2x rfl hxp rfl (by decide)) ?_ | refine al_opd rfl rfl rfl (ao_loadsV (A := #[.int _ _, .int _ _]) Try.isAgg31 Try.sizeOf31 hu2x rfl hxc rfl (by decide)) ?_ | refine al_opd rfl rfl rfl (ao_loadsV (A := #[.int _ _, .int _ _]) Try.isAgg31 Try.sizeOf31 hu1x rfl hx0 rfl (by decide)) ?_ | refine al_opd rfl rfl rfl (ao_loadsV (A := #[.int _ _, .int _ _]) Try.isAgg31 Try.sizeOf31 hu1x rfl hxl rfl (by decide)) ?_ | refine al_opd rfl rfl rfl (ao_loadsV (A := #[.int _ _, .int _ _]) Try.isAgg31 Try.sizeOf31 hu1x rfl hxp rfl (by decide)) ?_ | refine al_opd rfl rfl rfl (ao_loadsV (A := #[.int _ _, .int _ _]) Try.isAgg31 Try.sizeOf31 hu1x rfl hxc rfl (by decide)) ?_
    refine al_opd rfl rfl rfl (ao_calld (stepsI_c (r := r) (a := a) (b := b) hr hw hfa hfb) Try.call7 rfl rfl) ?_
    refine al_opd rfl rfl rfl (ao_mv (v := .tuple _) rfl) ?_
    refine al_opd rfl rfl rfl (ao_extract (v := .int _ _) rfl rfl) ?_
    refine al_opd rfl rfl rfl (ao_extract (v := .int _ _) rfl rfl) ?_
    refine al_opd rfl rfl rfl (ao_as (v := .int _ _) rfl) ?_
    refine al_opd rfl rfl rfl (ao_as (v := .int _ _) rfl) ?_
    refine al_nilT ?_
    refine aw_seq ?_
    refine aw_region ?_
    first | refine al_opd rfl rfl rfl (ao_loada Try.isAgg28 Try.sizeOf28 rfl (by exact HLp) (by rfl) (by first | rfl | exact four_get _ _ (by omega) | (simp; (first | done | fail)))) ?_ | refine al_opd rfl rfl rfl (ao_loadsV (A := #[.int _ _, .int _ _, .int _ _, .int _ _, .int _ _, .int _ _, .int _ _, .int _ _, .int _ _, .int _ _, .int _ _, .int _ _]) Try.isAgg28 Try.sizeOf28 hu2x rfl hx0 rfl (by decide)) ?_ | refine al_opd rfl rfl rfl (ao_loadsV (A := #[.int _ _, .int _ _, .int _ _, .int _ _, .int _ _, .int _ _, .int _ _, .int _ _, .int _ _, .int _ _, .int _ _, .int _ _]) Try.isAgg28 Try.sizeOf28 hu2x rfl hxl rfl (by decide)) ?_ | refine al_opd rfl rfl rfl (ao_loadsV (A := #[.int _ _, .int _ _, .int _ _, .int _ _, .int _ _, .int _ _, .int _ _, .int _ _, .int _ _, .int _ _, .int _ _, .int _ _]) Try.isAgg28 Try.sizeOf28 hu2x rfl hxp rfl (by decide)) ?_ | refine al_opd rfl rfl rfl (ao_loadsV (A := #[.int _ _, .int _ _, .int _ _, .int _ _, .int _ _, .int _ _, .int _ _, .int _ _, .int _ _, .int _ _, .int _ _, .int _ _]) Try.isAgg28 Try.sizeOf28 hu2x rfl hxc rfl (by decide)) ?_ | refine al_opd rfl rfl rfl (ao_loadsV (A := #[.int _ _, .int _ _, .int _ _, .int _ _, .int _ _, .int _ _, .int _ _, .int _ _, .int _ _, .int _ _, .int _ _, .int _ _]) Try.isAgg28 Try.sizeOf28 hu1x rfl hx0 rfl (by decide)) ?_ | refine al_opd rfl rfl rfl (ao_loadsV (A := #[.int _ _, .int _ _, .int _ _, .int _ _, .int _ _, .int _ _, .int _ _, .int _ _, .int _ _, .int _ _, .int _ _, .int _ _]) Try.isAgg28 Try.sizeOf28 hu1x rfl hxl rfl (by decide)) ?_ | refine al_opd rfl rfl rfl (ao_loadsV (A := #[.int _ _, .int _ _, .int _ _, .int _ _, .int _ _, .int _ _, .int _ _, .int _ _, .int _ _, .int _ _, .int _ _, .int _ _]) Try.isAgg28 Try.sizeOf28 hu1x rfl hxp rfl (by decide)) ?_ | refine al_opd rfl rfl rfl (ao_loadsV (A := #[.int _ _, .int _ _, .int _ _, .int _ _, .int _ _, .int _ _, .int _ _, .int _ _, .int _ _, .int _ _, .int _ _, .int _ _]) Try.isAgg28 Try.sizeOf28 hu1x rfl hxc rfl (by decide)) ?_
    first | refine al_opd rfl rfl rfl (ao_loada Try.isAgg31 Try.sizeOf31 rfl (by exact HLp) (by rfl) (by first | rfl | exact four_get _ _ (by omega) | (simp; (first | done | fail)))) ?_ | refine al_opd rfl rfl rfl (ao_loadsV (A := #[.int _ _, .int _ _]) Try.isAgg31 Try.sizeOf31 hu2x rfl hx0 rfl (by decide)) ?_ | refine al_opd rfl rfl rfl (ao_loadsV (A := #[.int _ _, .int _ _]) Try.isAgg31 Try.sizeOf31 hu2x rfl hxl rfl (by decide)) ?_ | refine al_opd rfl rfl rfl (ao_loadsV (A := #[.int _ _, .int _ _]) Try.isAgg31 Try.sizeOf31 hu2x rfl hxp rfl (by decide)) ?_ | refine al_opd rfl rfl rfl (ao_loadsV (A := #[.int _ _, .int _ _]) Try.isAgg31 Try.sizeOf31 hu2x rfl hxc rfl (by decide)) ?_ | refine al_opd rfl rfl rfl (ao_loadsV (A := #[.int _ _, .int _ _]) Try.isAgg31 Try.sizeOf31 hu1x rfl hx0 rfl (by decide)) ?_ | refine al_opd rfl rfl rfl (ao_loadsV (A := #[.int _ _, .int _ _]) Try.isAgg31 Try.sizeOf31 hu1x rfl hxl rfl (by decide)) ?_ | refine al_opd rfl rfl rfl (ao_loadsV (A := #[.int _ _, .int _ _]) Try.isAgg31 Try.sizeOf31 hu1x rfl hxp rfl (by decide)) ?_ | refine al_opd rfl rfl rfl (ao_loadsV (A := #[.int _ _, .int _ _]) Try.isAgg31 Try.sizeOf31 hu1x rfl hxc rfl (by decide)) ?_
    first | refine al_opd rfl rfl rfl (ao_loada Try.isAgg31 Try.sizeOf31 rfl (by exact HLp) (by rfl) (by first | rfl | exact four_get _ _ (by omega) | (simp; (first | done | fail)))) ?_ | refine al_opd rfl rfl rfl (ao_loadsV (A := #[.int _ _, .int _ _]) Try.isAgg31 Try.sizeOf31 hu2x rfl hx0 rfl (by decide)) ?_ | refine al_opd rfl rfl rfl (ao_loadsV (A := #[.int _ _, .int _ _]) Try.isAgg31 Try.sizeOf31 hu2x rfl hxl rfl (by decide)) ?_ | refine al_opd rfl rfl rfl (ao_loadsV (A := #[.int _ _, .int _ _]) Try.isAgg31 Try.sizeOf31 hu2x rfl hxp rfl (by decide)) ?_ | refine al_opd rfl rfl rfl (ao_loadsV (A := #[.int _ _, .int _ _]) Try.isAgg31 Try.sizeOf31 hu2x rfl hxc rfl (by decide)) ?_ | refine al_opd rfl rfl rfl (ao_loadsV (A := #[.int _ _, .int _ _]) Try.isAgg31 Try.sizeOf31 hu1x rfl hx0 rfl (by decide)) ?_ | refine al_opd rfl rfl rfl (ao_loadsV (A := #[.int _ _, .int _ _]) Try.isAgg31 Try.sizeOf31 hu1x rfl hxl rfl (by decide)) ?_ | refine al_opd rfl rfl rfl (ao_loadsV (A := #[.int _ _, .int _ _]) Try.isAgg31 Try.sizeOf31 hu1x rfl hxp rfl (by decide)) ?_ | refine al_opd rfl rfl rfl (ao_loadsV (A := #[.int _ _, .int _ _]) Try.isAgg31 Try.sizeOf31 hu1x rfl hxc rfl (by decide)) ?_
    refine al_opd rfl rfl rfl (ao_calld (stepsS_c (r := r) (a := a) (b := b) hr hw hfa hfb) Try.call8 rfl rfl) ?_
    refine al_opd rfl rfl rfl (ao_mv (v := .tuple _) rfl) ?_
    refine al_opd rfl rfl rfl (ao_extract (v := .int _ _) rfl rfl) ?_
    refine al_opd rfl rfl rfl (ao_extract (v := .int _ _) rfl rfl) ?_
    refine al_opd rfl rfl rfl (ao_as (v := .int _ _) rfl) ?_
    refine al_opd rfl rfl rfl (ao_as (v := .int _ _) rfl) ?_
    refine al_nilT ?_
    refine aw_seq ?_
    refine aw_region ?_
    first | refine al_opd rfl rfl rfl (ao_loada Try.isAgg28 Try.sizeOf28 rfl (by exact HLp) (by rfl) (by first | rfl | exact four_get _ _ (by omega) | (simp; (first | done | fail)))) ?_ | refine al_opd rfl rfl rfl (ao_loadsV (A := #[.int _ _, .int _ _, .int _ _, .int _ _, .int _ _, .int _ _, .int _ _, .int _ _, .int _ _, .int _ _, .int _ _, .int _ _]) Try.isAgg28 Try.sizeOf28 hu2x rfl hx0 rfl (by decide)) ?_ | refine al_opd rfl rfl rfl (ao_loadsV (A := #[.int _ _, .int _ _, .int _ _, .int _ _, .int _ _, .int _ _, .int _ _, .int _ _, .int _ _, .int _ _, .int _ _, .int _ _]) Try.isAgg28 Try.sizeOf28 hu2x rfl hxl rfl (by decide)) ?_ | refine al_opd rfl rfl rfl (ao_loadsV (A := #[.int _ _, .int _ _, .int _ _, .int _ _, .int _ _, .int _ _, .int _ _, .int _ _, .int _ _, .int _ _, .int _ _, .int _ _]) Try.isAgg28 Try.sizeOf28 hu2x rfl hxp rfl (by decide)) ?_ | refine al_opd rfl rfl rfl (ao_loadsV (A := #[.int _ _, .int _ _, .int _ _, .int _ _, .int _ _, .int _ _, .int _ _, .int _ _, .int _ _, .int _ _, .int _ _, .int _ _]) Try.isAgg28 Try.sizeOf28 hu2x rfl hxc rfl (by decide)) ?_ | refine al_opd rfl rfl rfl (ao_loadsV (A := #[.int _ _, .int _ _, .int _ _, .int _ _, .int _ _, .int _ _, .int _ _, .int _ _, .int _ _, .int _ _, .int _ _, .int _ _]) Try.isAgg28 Try.sizeOf28 hu1x rfl hx0 rfl (by decide)) ?_ | refine al_opd rfl rfl rfl (ao_loadsV (A := #[.int _ _, .int _ _, .int _ _, .int _ _, .int _ _, .int _ _, .int _ _, .int _ _, .int _ _, .int _ _, .int _ _, .int _ _]) Try.isAgg28 Try.sizeOf28 hu1x rfl hxl rfl (by decide)) ?_ | refine al_opd rfl rfl rfl (ao_loadsV (A := #[.int _ _, .int _ _, .int _ _, .int _ _, .int _ _, .int _ _, .int _ _, .int _ _, .int _ _, .int _ _, .int _ _, .int _ _]) Try.isAgg28 Try.sizeOf28 hu1x rfl hxp rfl (by decide)) ?_ | refine al_opd rfl rfl rfl (ao_loadsV (A := #[.int _ _, .int _ _, .int _ _, .int _ _, .int _ _, .int _ _, .int _ _, .int _ _, .int _ _, .int _ _, .int _ _, .int _ _]) Try.isAgg28 Try.sizeOf28 hu1x rfl hxc rfl (by decide)) ?_
    first | refine al_opd rfl rfl rfl (ao_loada Try.isAgg31 Try.sizeOf31 rfl (by exact HLp) (by rfl) (by first | rfl | exact four_get _ _ (by omega) | (simp; (first | done | fail)))) ?_ | refine al_opd rfl rfl rfl (ao_loadsV (A := #[.int _ _, .int _ _]) Try.isAgg31 Try.sizeOf31 hu2x rfl hx0 rfl (by decide)) ?_ | refine al_opd rfl rfl rfl (ao_loadsV (A := #[.int _ _, .int _ _]) Try.isAgg31 Try.sizeOf31 hu2x rfl hxl rfl (by decide)) ?_ | refine al_opd rfl rfl rfl (ao_loadsV (A := #[.int _ _, .int _ _]) Try.isAgg31 Try.sizeOf31 hu2x rfl hxp rfl (by decide)) ?_ | refine al_opd rfl rfl rfl (ao_loadsV (A := #[.int _ _, .int _ _]) Try.isAgg31 Try.sizeOf31 hu2x rfl hxc rfl (by decide)) ?_ | refine al_opd rfl rfl rfl (ao_loadsV (A := #[.int _ _, .int _ _]) Try.isAgg31 Try.sizeOf31 hu1x rfl hx0 rfl (by decide)) ?_ | refine al_opd rfl rfl rfl (ao_loadsV (A := #[.int _ _, .int _ _]) Try.isAgg31 Try.sizeOf31 hu1x rfl hxl rfl (by decide)) ?_ | refine al_opd rfl rfl rfl (ao_loadsV (A := #[.int _ _, .int _ _]) Try.isAgg31 Try.sizeOf31 hu1x rfl hxp rfl (by decide)) ?_ | refine al_opd rfl rfl rfl (ao_loadsV (A := #[.int _ _, .int _ _]) Try.isAgg31 Try.sizeOf31 hu1x rfl hxc rfl (by decide)) ?_
    first | refine al_opd rfl rfl rfl (ao_loada Try.isAgg31 Try.sizeOf31 rfl (by exact HLp) (by rfl) (by first | rfl | exact four_get _ _ (by omega) | (simp; (first | done | fail)))) ?_ | refine al_opd rfl rfl rfl (ao_loadsV (A := #[.int _ _, .int _ _]) Try.isAgg31 Try.sizeOf31 hu2x rfl hx0 rfl (by decide)) ?_ | refine al_opd rfl rfl rfl (ao_loadsV (A := #[.int _ _, .int _ _]) Try.isAgg31 Try.sizeOf31 hu2x rfl hxl rfl (by decide)) ?_ | refine al_opd rfl rfl rfl (ao_loadsV (A := #[.int _ _, .int _ _]) Try.isAgg31 Try.sizeOf31 hu2x rfl hxp rfl (by decide)) ?_ | refine al_opd rfl rfl rfl (ao_loadsV (A := #[.int _ _, .int _ _]) Try.isAgg31 Try.sizeOf31 hu2x rfl hxc rfl (by decide)) ?_ | refine al_opd rfl rfl rfl (ao_loadsV (A := #[.int _ _, .int _ _]) Try.isAgg31 Try.sizeOf31 hu1x rfl hx0 rfl (by decide)) ?_ | refine al_opd rfl rfl rfl (ao_loadsV (A := #[.int _ _, .int _ _]) Try.isAgg31 Try.sizeOf31 hu1x rfl hxl rfl (by decide)) ?_ | refine al_opd rfl rfl rfl (ao_loadsV (A := #[.int _ _, .int _ _]) Try.isAgg31 Try.sizeOf31 hu1x rfl hxp rfl (by decide)) ?_ | refine al_opd rfl rfl rfl (ao_loadsV (A := #[.int _ _, .int _ _]) Try.isAgg31 Try.sizeOf31 hu1x rfl hxc rfl (by decide)) ?_
    refine al_opd rfl rfl rfl (ao_calld (ACd.val (stepsI_c (r := r) (a := b) (b := a) hr hw hfb hfa) (by rw [hsy.1, hsy.2])) Try.call7 rfl rfl) ?_
    refine al_opd rfl rfl rfl (ao_mv (v := .tuple _) rfl) ?_
    refine al_opd rfl rfl rfl (ao_extract (v := .int _ _) rfl rfl) ?_
    refine al_opd rfl rfl rfl (ao_extract (v := .int _ _) rfl rfl) ?_
    refine al_opd rfl rfl rfl (ao_as (v := .int _ _) rfl) ?_
    refine al_opd rfl rfl rfl (ao_as (v := .int _ _) rfl) ?_
    refine al_nilT ?_
    refine aw_seq ?_
    refine aw_region ?_
    first | refine al_opd rfl rfl rfl (ao_loada Try.isAgg28 Try.sizeOf28 rfl (by exact HLp) (by rfl) (by first | rfl | exact four_get _ _ (by omega) | (simp; (first | done | fail)))) ?_ | refine al_opd rfl rfl rfl (ao_loadsV (A := #[.int _ _, .int _ _, .int _ _, .int _ _, .int _ _, .int _ _, .int _ _, .int _ _, .int _ _, .int _ _, .int _ _, .int _ _]) Try.isAgg28 Try.sizeOf28 hu2x rfl hx0 rfl (by decide)) ?_ | refine al_opd rfl rfl rfl (ao_loadsV (A := #[.int _ _, .int _ _, .int _ _, .int _ _, .int _ _, .int _ _, .int _ _, .int _ _, .int _ _, .int _ _, .int _ _, .int _ _]) Try.isAgg28 Try.sizeOf28 hu2x rfl hxl rfl (by decide)) ?_ | refine al_opd rfl rfl rfl (ao_loadsV (A := #[.int _ _, .int _ _, .int _ _, .int _ _, .int _ _, .int _ _, .int _ _, .int _ _, .int _ _, .int _ _, .int _ _, .int _ _]) Try.isAgg28 Try.sizeOf28 hu2x rfl hxp rfl (by decide)) ?_ | refine al_opd rfl rfl rfl (ao_loadsV (A := #[.int _ _, .int _ _, .int _ _, .int _ _, .int _ _, .int _ _, .int _ _, .int _ _, .int _ _, .int _ _, .int _ _, .int _ _]) Try.isAgg28 Try.sizeOf28 hu2x rfl hxc rfl (by decide)) ?_ | refine al_opd rfl rfl rfl (ao_loadsV (A := #[.int _ _, .int _ _, .int _ _, .int _ _, .int _ _, .int _ _, .int _ _, .int _ _, .int _ _, .int _ _, .int _ _, .int _ _]) Try.isAgg28 Try.sizeOf28 hu1x rfl hx0 rfl (by decide)) ?_ | refine al_opd rfl rfl rfl (ao_loadsV (A := #[.int _ _, .int _ _, .int _ _, .int _ _, .int _ _, .int _ _, .int _ _, .int _ _, .int _ _, .int _ _, .int _ _, .int _ _]) Try.isAgg28 Try.sizeOf28 hu1x rfl hxl rfl (by decide)) ?_ | refine al_opd rfl rfl rfl (ao_loadsV (A := #[.int _ _, .int _ _, .int _ _, .int _ _, .int _ _, .int _ _, .int _ _, .int _ _, .int _ _, .int _ _, .int _ _, .int _ _]) Try.isAgg28 Try.sizeOf28 hu1x rfl hxp rfl (by decide)) ?_ | refine al_opd rfl rfl rfl (ao_loadsV (A := #[.int _ _, .int _ _, .int _ _, .int _ _, .int _ _, .int _ _, .int _ _, .int _ _, .int _ _, .int _ _, .int _ _, .int _ _]) Try.isAgg28 Try.sizeOf28 hu1x rfl hxc rfl (by decide)) ?_
    first | refine al_opd rfl rfl rfl (ao_loada Try.isAgg31 Try.sizeOf31 rfl (by exact HLp) (by rfl) (by first | rfl | exact four_get _ _ (by omega) | (simp; (first | done | fail)))) ?_ | refine al_opd rfl rfl rfl (ao_loadsV (A := #[.int _ _, .int _ _]) Try.isAgg31 Try.sizeOf31 hu2x rfl hx0 rfl (by decide)) ?_ | refine al_opd rfl rfl rfl (ao_loadsV (A := #[.int _ _, .int _ _]) Try.isAgg31 Try.sizeOf31 hu2x rfl hxl rfl (by decide)) ?_ | refine al_opd rfl rfl rfl (ao_loadsV (A := #[.int _ _, .int _ _]) Try.isAgg31 Try.sizeOf31 hu2x rfl hxp rfl (by decide)) ?_ | refine al_opd rfl rfl rfl (ao_loadsV (A := #[.int _ _, .int _ _]) Try.isAgg31 Try.sizeOf31 hu2x rfl hxc rfl (by decide)) ?_ | refine al_opd rfl rfl rfl (ao_loadsV (A := #[.int _ _, .int _ _]) Try.isAgg31 Try.sizeOf31 hu1x rfl hx0 rfl (by decide)) ?_ | refine al_opd rfl rfl rfl (ao_loadsV (A := #[.int _ _, .int _ _]) Try.isAgg31 Try.sizeOf31 hu1x rfl hxl rfl (by decide)) ?_ | refine al_opd rfl rfl rfl (ao_loadsV (A := #[.int _ _, .int _ _]) Try.isAgg31 Try.sizeOf31 hu1x rfl hxp rfl (by decide)) ?_ | refine al_opd rfl rfl rfl (ao_loadsV (A := #[.int _ _, .int _ _]) Try.isAgg31 Try.sizeOf31 hu1x rfl hxc rfl (by decide)) ?_
    first | refine al_opd rfl rfl rfl (ao_loada Try.isAgg31 Try.sizeOf31 rfl (by exact HLp) (by rfl) (by first | rfl | exact four_get _ _ (by omega) | (simp; (first | done | fail)))) ?_ | refine al_opd rfl rfl rfl (ao_loadsV (A := #[.int _ _, .int _ _]) Try.isAgg31 Try.sizeOf31 hu2x rfl hx0 rfl (by decide)) ?_ | refine al_opd rfl rfl rfl (ao_loadsV (A := #[.int _ _, .int _ _]) Try.isAgg31 Try.sizeOf31 hu2x rfl hxl rfl (by decide)) ?_ | refine al_opd rfl rfl rfl (ao_loadsV (A := #[.int _ _, .int _ _]) Try.isAgg31 Try.sizeOf31 hu2x rfl hxp rfl (by decide)) ?_ | refine al_opd rfl rfl rfl (ao_loadsV (A := #[.int _ _, .int _ _]) Try.isAgg31 Try.sizeOf31 hu2x rfl hxc rfl (by decide)) ?_ | refine al_opd rfl rfl rfl (ao_loadsV (A := #[.int _ _, .int _ _]) Try.isAgg31 Try.sizeOf31 hu1x rfl hx0 rfl (by decide)) ?_ | refine al_opd rfl rfl rfl (ao_loadsV (A := #[.int _ _, .int _ _]) Try.isAgg31 Try.sizeOf31 hu1x rfl hxl rfl (by decide)) ?_ | refine al_opd rfl rfl rfl (ao_loadsV (A := #[.int _ _, .int _ _]) Try.isAgg31 Try.sizeOf31 hu1x rfl hxp rfl (by decide)) ?_ | refine al_opd rfl rfl rfl (ao_loadsV (A := #[.int _ _, .int _ _]) Try.isAgg31 Try.sizeOf31 hu1x rfl hxc rfl (by decide)) ?_
    refine al_op rfl rfl rfl (ao_call Try.call9 rfl (wayI_c (r := r) (a := a) (b := b) hr hw hfa hfb) rfl) ?_
    rintro _ G1 ⟨u1, rfl, hu1, hsw1, hnw1⟩
    have hq51 : G1.blk b5 = some (.cells (roomC r) 1) := (hsw1 b5 (by omega)).trans (by exact HLp)
    have hq61 : G1.blk b6 = some (.cells (spot a) 1) := (hsw1 b6 (by omega)).trans (by exact HLp)
    have hq71 : G1.blk b7 = some (.cells (spot b) 1) := (hsw1 b7 (by omega)).trans (by exact HLp)
    have hGw1 : Same H.next H G1 := Same.trans (by exact SMp) hsw1 (by omega)
    refine al_opd rfl rfl rfl (ao_mv (v := .tuple _) rfl) ?_
    first | refine al_opd rfl rfl rfl (ao_extract (v := cv) rfl rfl) ?_ | refine al_opd rfl rfl rfl (ao_extract (v := du) rfl rfl) ?_ | refine al_opd rfl rfl rfl (ao_extract (v := u1) rfl rfl) ?_ | refine al_opd rfl rfl rfl (ao_extract (v := u2) rfl rfl) ?_ | refine al_opd rfl rfl rfl (ao_extract (v := .slice _ _ _) rfl rfl) ?_
    refine al_opd rfl rfl rfl (ao_extract (v := .int _ _) rfl rfl) ?_
    first | refine al_opd rfl rfl rfl (ao_as (v := .slice _ _ _) rfl) ?_ | refine al_opd rfl rfl rfl (ao_as (v := cv) rfl) ?_ | refine al_opd rfl rfl rfl (ao_as (v := du) rfl) ?_ | refine al_opd rfl rfl rfl (ao_as (v := u1) rfl) ?_ | refine al_opd rfl rfl rfl (ao_as (v := u2) rfl) ?_
    refine al_opd rfl rfl rfl (ao_as (v := .int _ _) rfl) ?_
    refine al_nilT ?_
    refine aw_seq ?_
    refine aw_region ?_
    first | refine al_opd rfl rfl rfl (ao_loada Try.isAgg28 Try.sizeOf28 rfl (by exact HLp) (by rfl) (by first | rfl | exact four_get _ _ (by omega) | (simp; (first | done | fail)))) ?_ | refine al_opd rfl rfl rfl (ao_loadsV (A := #[.int _ _, .int _ _, .int _ _, .int _ _, .int _ _, .int _ _, .int _ _, .int _ _, .int _ _, .int _ _, .int _ _, .int _ _]) Try.isAgg28 Try.sizeOf28 hu2x rfl hx0 rfl (by decide)) ?_ | refine al_opd rfl rfl rfl (ao_loadsV (A := #[.int _ _, .int _ _, .int _ _, .int _ _, .int _ _, .int _ _, .int _ _, .int _ _, .int _ _, .int _ _, .int _ _, .int _ _]) Try.isAgg28 Try.sizeOf28 hu2x rfl hxl rfl (by decide)) ?_ | refine al_opd rfl rfl rfl (ao_loadsV (A := #[.int _ _, .int _ _, .int _ _, .int _ _, .int _ _, .int _ _, .int _ _, .int _ _, .int _ _, .int _ _, .int _ _, .int _ _]) Try.isAgg28 Try.sizeOf28 hu2x rfl hxp rfl (by decide)) ?_ | refine al_opd rfl rfl rfl (ao_loadsV (A := #[.int _ _, .int _ _, .int _ _, .int _ _, .int _ _, .int _ _, .int _ _, .int _ _, .int _ _, .int _ _, .int _ _, .int _ _]) Try.isAgg28 Try.sizeOf28 hu2x rfl hxc rfl (by decide)) ?_ | refine al_opd rfl rfl rfl (ao_loadsV (A := #[.int _ _, .int _ _, .int _ _, .int _ _, .int _ _, .int _ _, .int _ _, .int _ _, .int _ _, .int _ _, .int _ _, .int _ _]) Try.isAgg28 Try.sizeOf28 hu1x rfl hx0 rfl (by decide)) ?_ | refine al_opd rfl rfl rfl (ao_loadsV (A := #[.int _ _, .int _ _, .int _ _, .int _ _, .int _ _, .int _ _, .int _ _, .int _ _, .int _ _, .int _ _, .int _ _, .int _ _]) Try.isAgg28 Try.sizeOf28 hu1x rfl hxl rfl (by decide)) ?_ | refine al_opd rfl rfl rfl (ao_loadsV (A := #[.int _ _, .int _ _, .int _ _, .int _ _, .int _ _, .int _ _, .int _ _, .int _ _, .int _ _, .int _ _, .int _ _, .int _ _]) Try.isAgg28 Try.sizeOf28 hu1x rfl hxp rfl (by decide)) ?_ | refine al_opd rfl rfl rfl (ao_loadsV (A := #[.int _ _, .int _ _, .int _ _, .int _ _, .int _ _, .int _ _, .int _ _, .int _ _, .int _ _, .int _ _, .int _ _, .int _ _]) Try.isAgg28 Try.sizeOf28 hu1x rfl hxc rfl (by decide)) ?_
    first | refine al_opd rfl rfl rfl (ao_loada Try.isAgg31 Try.sizeOf31 rfl (by exact HLp) (by rfl) (by first | rfl | exact four_get _ _ (by omega) | (simp; (first | done | fail)))) ?_ | refine al_opd rfl rfl rfl (ao_loadsV (A := #[.int _ _, .int _ _]) Try.isAgg31 Try.sizeOf31 hu2x rfl hx0 rfl (by decide)) ?_ | refine al_opd rfl rfl rfl (ao_loadsV (A := #[.int _ _, .int _ _]) Try.isAgg31 Try.sizeOf31 hu2x rfl hxl rfl (by decide)) ?_ | refine al_opd rfl rfl rfl (ao_loadsV (A := #[.int _ _, .int _ _]) Try.isAgg31 Try.sizeOf31 hu2x rfl hxp rfl (by decide)) ?_ | refine al_opd rfl rfl rfl (ao_loadsV (A := #[.int _ _, .int _ _]) Try.isAgg31 Try.sizeOf31 hu2x rfl hxc rfl (by decide)) ?_ | refine al_opd rfl rfl rfl (ao_loadsV (A := #[.int _ _, .int _ _]) Try.isAgg31 Try.sizeOf31 hu1x rfl hx0 rfl (by decide)) ?_ | refine al_opd rfl rfl rfl (ao_loadsV (A := #[.int _ _, .int _ _]) Try.isAgg31 Try.sizeOf31 hu1x rfl hxl rfl (by decide)) ?_ | refine al_opd rfl rfl rfl (ao_loadsV (A := #[.int _ _, .int _ _]) Try.isAgg31 Try.sizeOf31 hu1x rfl hxp rfl (by decide)) ?_ | refine al_opd rfl rfl rfl (ao_loadsV (A := #[.int _ _, .int _ _]) Try.isAgg31 Try.sizeOf31 hu1x rfl hxc rfl (by decide)) ?_
    first | refine al_opd rfl rfl rfl (ao_loada Try.isAgg31 Try.sizeOf31 rfl (by exact HLp) (by rfl) (by first | rfl | exact four_get _ _ (by omega) | (simp; (first | done | fail)))) ?_ | refine al_opd rfl rfl rfl (ao_loadsV (A := #[.int _ _, .int _ _]) Try.isAgg31 Try.sizeOf31 hu2x rfl hx0 rfl (by decide)) ?_ | refine al_opd rfl rfl rfl (ao_loadsV (A := #[.int _ _, .int _ _]) Try.isAgg31 Try.sizeOf31 hu2x rfl hxl rfl (by decide)) ?_ | refine al_opd rfl rfl rfl (ao_loadsV (A := #[.int _ _, .int _ _]) Try.isAgg31 Try.sizeOf31 hu2x rfl hxp rfl (by decide)) ?_ | refine al_opd rfl rfl rfl (ao_loadsV (A := #[.int _ _, .int _ _]) Try.isAgg31 Try.sizeOf31 hu2x rfl hxc rfl (by decide)) ?_ | refine al_opd rfl rfl rfl (ao_loadsV (A := #[.int _ _, .int _ _]) Try.isAgg31 Try.sizeOf31 hu1x rfl hx0 rfl (by decide)) ?_ | refine al_opd rfl rfl rfl (ao_loadsV (A := #[.int _ _, .int _ _]) Try.isAgg31 Try.sizeOf31 hu1x rfl hxl rfl (by decide)) ?_ | refine al_opd rfl rfl rfl (ao_loadsV (A := #[.int _ _, .int _ _]) Try.isAgg31 Try.sizeOf31 hu1x rfl hxp rfl (by decide)) ?_ | refine al_opd rfl rfl rfl (ao_loadsV (A := #[.int _ _, .int _ _]) Try.isAgg31 Try.sizeOf31 hu1x rfl hxc rfl (by decide)) ?_
    refine al_op rfl rfl rfl (ao_call Try.call10 rfl (wayS_c (r := r) (a := a) (b := b) hr hw hfa hfb) rfl) ?_
    rintro _ G2 ⟨u2, rfl, hu2, hsw2, hnw2⟩
    have hq52 : G2.blk b5 = some (.cells (roomC r) 1) := (hsw2 b5 (by omega)).trans (by exact HLp)
    have hq62 : G2.blk b6 = some (.cells (spot a) 1) := (hsw2 b6 (by omega)).trans (by exact HLp)
    have hq72 : G2.blk b7 = some (.cells (spot b) 1) := (hsw2 b7 (by omega)).trans (by exact HLp)
    have hGw2 : Same H.next H G2 := Same.trans (by exact SMp) hsw2 (by omega)
    refine al_opd rfl rfl rfl (ao_mv (v := .tuple _) rfl) ?_
    first | refine al_opd rfl rfl rfl (ao_extract (v := cv) rfl rfl) ?_ | refine al_opd rfl rfl rfl (ao_extract (v := du) rfl rfl) ?_ | refine al_opd rfl rfl rfl (ao_extract (v := u1) rfl rfl) ?_ | refine al_opd rfl rfl rfl (ao_extract (v := u2) rfl rfl) ?_ | refine al_opd rfl rfl rfl (ao_extract (v := .slice _ _ _) rfl rfl) ?_
    refine al_opd rfl rfl rfl (ao_extract (v := .int _ _) rfl rfl) ?_
    first | refine al_opd rfl rfl rfl (ao_as (v := .slice _ _ _) rfl) ?_ | refine al_opd rfl rfl rfl (ao_as (v := cv) rfl) ?_ | refine al_opd rfl rfl rfl (ao_as (v := du) rfl) ?_ | refine al_opd rfl rfl rfl (ao_as (v := u1) rfl) ?_ | refine al_opd rfl rfl rfl (ao_as (v := u2) rfl) ?_
    refine al_opd rfl rfl rfl (ao_as (v := .int _ _) rfl) ?_
    refine al_nilT ?_
    refine aw_seq ?_
    refine aw_region ?_
    first | refine al_opd rfl rfl rfl (ao_loada Try.isAgg28 Try.sizeOf28 rfl (by exact HLp) (by rfl) (by first | rfl | exact four_get _ _ (by omega) | (simp; (first | done | fail)))) ?_ | refine al_opd rfl rfl rfl (ao_loadsV (A := #[.int _ _, .int _ _, .int _ _, .int _ _, .int _ _, .int _ _, .int _ _, .int _ _, .int _ _, .int _ _, .int _ _, .int _ _]) Try.isAgg28 Try.sizeOf28 hu2x rfl hx0 rfl (by decide)) ?_ | refine al_opd rfl rfl rfl (ao_loadsV (A := #[.int _ _, .int _ _, .int _ _, .int _ _, .int _ _, .int _ _, .int _ _, .int _ _, .int _ _, .int _ _, .int _ _, .int _ _]) Try.isAgg28 Try.sizeOf28 hu2x rfl hxl rfl (by decide)) ?_ | refine al_opd rfl rfl rfl (ao_loadsV (A := #[.int _ _, .int _ _, .int _ _, .int _ _, .int _ _, .int _ _, .int _ _, .int _ _, .int _ _, .int _ _, .int _ _, .int _ _]) Try.isAgg28 Try.sizeOf28 hu2x rfl hxp rfl (by decide)) ?_ | refine al_opd rfl rfl rfl (ao_loadsV (A := #[.int _ _, .int _ _, .int _ _, .int _ _, .int _ _, .int _ _, .int _ _, .int _ _, .int _ _, .int _ _, .int _ _, .int _ _]) Try.isAgg28 Try.sizeOf28 hu2x rfl hxc rfl (by decide)) ?_ | refine al_opd rfl rfl rfl (ao_loadsV (A := #[.int _ _, .int _ _, .int _ _, .int _ _, .int _ _, .int _ _, .int _ _, .int _ _, .int _ _, .int _ _, .int _ _, .int _ _]) Try.isAgg28 Try.sizeOf28 hu1x rfl hx0 rfl (by decide)) ?_ | refine al_opd rfl rfl rfl (ao_loadsV (A := #[.int _ _, .int _ _, .int _ _, .int _ _, .int _ _, .int _ _, .int _ _, .int _ _, .int _ _, .int _ _, .int _ _, .int _ _]) Try.isAgg28 Try.sizeOf28 hu1x rfl hxl rfl (by decide)) ?_ | refine al_opd rfl rfl rfl (ao_loadsV (A := #[.int _ _, .int _ _, .int _ _, .int _ _, .int _ _, .int _ _, .int _ _, .int _ _, .int _ _, .int _ _, .int _ _, .int _ _]) Try.isAgg28 Try.sizeOf28 hu1x rfl hxp rfl (by decide)) ?_ | refine al_opd rfl rfl rfl (ao_loadsV (A := #[.int _ _, .int _ _, .int _ _, .int _ _, .int _ _, .int _ _, .int _ _, .int _ _, .int _ _, .int _ _, .int _ _, .int _ _]) Try.isAgg28 Try.sizeOf28 hu1x rfl hxc rfl (by decide)) ?_
    first | refine al_opd rfl rfl rfl (ao_loada Try.isAgg31 Try.sizeOf31 rfl (by exact HLp) (by rfl) (by first | rfl | exact four_get _ _ (by omega) | (simp; (first | done | fail)))) ?_ | refine al_opd rfl rfl rfl (ao_loadsV (A := #[.int _ _, .int _ _]) Try.isAgg31 Try.sizeOf31 hu2x rfl hx0 rfl (by decide)) ?_ | refine al_opd rfl rfl rfl (ao_loadsV (A := #[.int _ _, .int _ _]) Try.isAgg31 Try.sizeOf31 hu2x rfl hxl rfl (by decide)) ?_ | refine al_opd rfl rfl rfl (ao_loadsV (A := #[.int _ _, .int _ _]) Try.isAgg31 Try.sizeOf31 hu2x rfl hxp rfl (by decide)) ?_ | refine al_opd rfl rfl rfl (ao_loadsV (A := #[.int _ _, .int _ _]) Try.isAgg31 Try.sizeOf31 hu2x rfl hxc rfl (by decide)) ?_ | refine al_opd rfl rfl rfl (ao_loadsV (A := #[.int _ _, .int _ _]) Try.isAgg31 Try.sizeOf31 hu1x rfl hx0 rfl (by decide)) ?_ | refine al_opd rfl rfl rfl (ao_loadsV (A := #[.int _ _, .int _ _]) Try.isAgg31 Try.sizeOf31 hu1x rfl hxl rfl (by decide)) ?_ | refine al_opd rfl rfl rfl (ao_loadsV (A := #[.int _ _, .int _ _]) Try.isAgg31 Try.sizeOf31 hu1x rfl hxp rfl (by decide)) ?_ | refine al_opd rfl rfl rfl (ao_loadsV (A := #[.int _ _, .int _ _]) Try.isAgg31 Try.sizeOf31 hu1x rfl hxc rfl (by decide)) ?_
    refine al_opd rfl rfl rfl (ao_calld (specPart1_c (r := r) (s := a) hw (wf_of_free hfa) (stood_free hr hfa rfl)) Try.call11 rfl rfl) ?_
    refine al_opd rfl rfl rfl (ao_mv (v := .tuple _) rfl) ?_
    first | refine al_opd rfl rfl rfl (ao_extract (v := cv) rfl rfl) ?_ | refine al_opd rfl rfl rfl (ao_extract (v := du) rfl rfl) ?_ | refine al_opd rfl rfl rfl (ao_extract (v := u1) rfl rfl) ?_ | refine al_opd rfl rfl rfl (ao_extract (v := u2) rfl rfl) ?_ | refine al_opd rfl rfl rfl (ao_extract (v := .slice _ _ _) rfl rfl) ?_
    refine al_opd rfl rfl rfl (ao_extract (v := .int _ _) rfl rfl) ?_
    first | refine al_opd rfl rfl rfl (ao_as (v := .slice _ _ _) rfl) ?_ | refine al_opd rfl rfl rfl (ao_as (v := cv) rfl) ?_ | refine al_opd rfl rfl rfl (ao_as (v := du) rfl) ?_ | refine al_opd rfl rfl rfl (ao_as (v := u1) rfl) ?_ | refine al_opd rfl rfl rfl (ao_as (v := u2) rfl) ?_
    refine al_opd rfl rfl rfl (ao_as (v := .int _ _) rfl) ?_
    have hu1x : Sl (G2.push (.cells (fl spot (nearL r a 100)) 2)) spot 2 u1 (wayU r a b) := (hu1.mono hsw2).mono (by exact SMp)
    have hu2x : Sl (G2.push (.cells (fl spot (nearL r a 100)) 2)) spot 2 u2 (wayU r a b) := hu2.mono (by exact SMp)
    have hptx : Sl (G2.push (.cells (fl spot (nearL r a 100)) 2)) spot 2 (.slice (some ⟨G2.next, 0, none⟩) (nearL r a 100).length ((nearL r a 100).length + 1)) (nearL r a 100) := Sl.full spot_len (by exact HLp) rfl rfl rfl
    refine al_nilT ?_
    refine aw_seq ?_
    refine aw_seq ?_
    refine aw_cut (fun (fr : AFr) (G : AHeap) => ∃ get : Nat → Value, fr = ⟨343, get⟩ ∧ G = (G2.push (.cells (fl spot (nearL r a 100)) 2)) ∧ get 5 = .pointer (some ⟨b5, 0, none⟩) ∧ get 6 = .pointer (some ⟨b6, 0, none⟩) ∧ get 7 = .pointer (some ⟨b7, 0, none⟩) ∧ get 9 = .int .i64 (stepQ r a b) ∧ get 10 = .int .i64 (stepV r a b) ∧ get 16 = u2 ∧ get 18 = .slice (some ⟨G2.next, 0, none⟩) (nearL r a 100).length ((nearL r a 100).length + 1) ∧ get 152 = .bool false) ?_ ?_
    · try skip
      refine aw_region ?_
      refine al_opd rfl rfl rfl (ao_mv (v := .int _ _) rfl) ?_
      refine al_opd rfl rfl rfl (ao_mv (v := .int _ _) rfl) ?_
      refine al_opd rfl rfl rfl (ao_neq rfl rfl) ?_
      refine al_opd rfl rfl rfl (ao_mv (v := .bool _) rfl) ?_
      refine al_cases (d := 95) rfl (fun h2_ => ?_) (fun h2_ => ?_)
      · try simp only [nrm] at h2_
        first | done | omega | (exfalso; revert h2_; simp; (first | done | omega))
      try simp only [nrm] at h2_
      refine al_gyes rfl rfl rfl rfl rfl (ao_mv (v := .int _ _) rfl) ?_
      refine al_gyes rfl rfl rfl rfl rfl (ao_mv (v := .int _ _) rfl) ?_
      refine al_gyes rfl rfl rfl rfl rfl (ao_neq rfl rfl) ?_
      refine al_opd rfl rfl rfl (ao_pickF rfl (v := .bool _) rfl) ?_
      refine al_opd rfl rfl rfl (ao_mv (v := .bool _) rfl) ?_
      refine al_cases (d := 100) rfl (fun h3_ => ?_) (fun h3_ => ?_)
      · try simp only [nrm] at h3_
        first | done | omega | (exfalso; revert h3_; simp; (first | done | omega))
      try simp only [nrm] at h3_
      refine al_gyes rfl rfl rfl rfl rfl (ao_mv (v := .int _ _) rfl) ?_
      refine al_gyes rfl rfl rfl rfl rfl (ao_mv (v := .int _ _) rfl) ?_
      refine al_gyes rfl rfl rfl rfl rfl (ao_neq rfl rfl) ?_
      refine al_opd rfl rfl rfl (ao_pickF rfl (v := .bool _) rfl) ?_
      refine al_opd rfl rfl rfl (ao_mv (v := .bool _) rfl) ?_
      refine al_cases (d := 105) rfl (fun h4_ => ?_) (fun h4_ => ?_)
      · try simp only [nrm] at h4_
        first | done | omega | (exfalso; revert h4_; simp; (first | done | omega))
      try simp only [nrm] at h4_
      refine al_gyes rfl rfl rfl rfl rfl (ao_mv (v := .int _ _) rfl) ?_
      refine al_gyes rfl rfl rfl rfl rfl (ao_mv (v := .int _ _) rfl) ?_
      refine al_gyes rfl rfl rfl rfl rfl (ao_neq rfl rfl) ?_
      refine al_opd rfl rfl rfl (ao_pickF rfl (v := .bool _) rfl) ?_
      refine al_opd rfl rfl rfl (ao_mv (v := .bool _) rfl) ?_
      refine al_cases (d := 110) rfl (fun h5_ => ?_) (fun h5_ => ?_)
      · try simp only [nrm] at h5_
        first | done | omega | (exfalso; revert h5_; simp; (first | done | omega))
      try simp only [nrm] at h5_
      refine al_gyes rfl rfl rfl rfl rfl (ao_mv (v := .int _ _) rfl) ?_
      refine al_gyes rfl rfl rfl rfl rfl (ao_mv (v := .int _ _) rfl) ?_
      refine al_gyes rfl rfl rfl rfl rfl (ao_neq rfl rfl) ?_
      refine al_opd rfl rfl rfl (ao_pickF rfl (v := .bool _) rfl) ?_
      refine al_opd rfl rfl rfl (ao_mv (v := .bool _) rfl) ?_
      refine al_cases (d := 115) rfl (fun h6_ => ?_) (fun h6_ => ?_)
      · try simp only [nrm] at h6_
        first | done | omega | (exfalso; revert h6_; simp; (first | done | omega))
      try simp only [nrm] at h6_
      refine al_gyes rfl rfl rfl rfl rfl (ao_mv (v := .int _ _) rfl) ?_
      refine al_gyes rfl rfl rfl rfl rfl (ao_mv (v := .int _ _) rfl) ?_
      refine al_gyes rfl rfl rfl rfl rfl (ao_neq rfl rfl) ?_
      refine al_opd rfl rfl rfl (ao_pickF rfl (v := .bool _) rfl) ?_
      refine al_opd rfl rfl rfl (ao_mv (v := .bool _) rfl) ?_
      refine al_cases (d := 120) rfl (fun h7_ => ?_) (fun h7_ => ?_)
      · try simp only [nrm] at h7_
        first | done | omega | (exfalso; revert h7_; simp; (first | done | omega))
      try simp only [nrm] at h7_
      first | refine al_gyes rfl rfl rfl rfl rfl (ao_mv (v := .slice _ _ _) rfl) ?_ | refine al_gyes rfl rfl rfl rfl rfl (ao_mv (v := cv) rfl) ?_ | refine al_gyes rfl rfl rfl rfl rfl (ao_mv (v := du) rfl) ?_ | refine al_gyes rfl rfl rfl rfl rfl (ao_mv (v := u1) rfl) ?_ | refine al_gyes rfl rfl rfl rfl rfl (ao_mv (v := u2) rfl) ?_
      first | refine al_gyes rfl rfl rfl rfl rfl (ao_mv (v := .slice _ _ _) rfl) ?_ | refine al_gyes rfl rfl rfl rfl rfl (ao_mv (v := cv) rfl) ?_ | refine al_gyes rfl rfl rfl rfl rfl (ao_mv (v := du) rfl) ?_ | refine al_gyes rfl rfl rfl rfl rfl (ao_mv (v := u1) rfl) ?_ | refine al_gyes rfl rfl rfl rfl rfl (ao_mv (v := u2) rfl) ?_
      refine al_gyes rfl rfl rfl rfl rfl (ao_calld (ACd.val (specSameSpots_c (l := (wayU r a b)) (m := (wayU r a b)) hu1x hu2x (by omega)) (congrArg Value.bool (decide_eq_true rfl))) Try.call12 rfl rfl) ?_
      refine al_gyes rfl rfl rfl rfl rfl (ao_not rfl) ?_
      refine al_opd rfl rfl rfl (ao_pickF rfl (v := .bool _) rfl) ?_
      refine al_opd rfl rfl rfl (ao_mv (v := .bool _) rfl) ?_
      refine al_cases (d := 126) rfl (fun h8_ => ?_) (fun h8_ => ?_)
      · try simp only [nrm] at h8_
        first | done | omega | (exfalso; revert h8_; simp; (first | done | omega))
      try simp only [nrm] at h8_
      first | refine al_gyes rfl rfl rfl rfl rfl (ao_mv (v := .slice _ _ _) rfl) ?_ | refine al_gyes rfl rfl rfl rfl rfl (ao_mv (v := cv) rfl) ?_ | refine al_gyes rfl rfl rfl rfl rfl (ao_mv (v := du) rfl) ?_ | refine al_gyes rfl rfl rfl rfl rfl (ao_mv (v := u1) rfl) ?_ | refine al_gyes rfl rfl rfl rfl rfl (ao_mv (v := u2) rfl) ?_
      first | refine al_gyes rfl rfl rfl rfl rfl (ao_lenS Try.underlying35 (by rfl)) ?_ | refine al_gyes rfl rfl rfl rfl rfl (ao_lenN Try.underlying35 (by rfl)) ?_ | refine al_gyes rfl rfl rfl rfl rfl (ao_lenV Try.underlying35 rfl hu2x) ?_ | refine al_gyes rfl rfl rfl rfl rfl (ao_lenV Try.underlying35 rfl hu1x) ?_
      first | refine al_gyes rfl rfl rfl rfl rfl (ao_mv (v := .slice _ _ _) rfl) ?_ | refine al_gyes rfl rfl rfl rfl rfl (ao_mv (v := cv) rfl) ?_ | refine al_gyes rfl rfl rfl rfl rfl (ao_mv (v := du) rfl) ?_ | refine al_gyes rfl rfl rfl rfl rfl (ao_mv (v := u1) rfl) ?_ | refine al_gyes rfl rfl rfl rfl rfl (ao_mv (v := u2) rfl) ?_
      first | refine al_gyes rfl rfl rfl rfl rfl (ao_lenS Try.underlying35 (by rfl)) ?_ | refine al_gyes rfl rfl rfl rfl rfl (ao_lenN Try.underlying35 (by rfl)) ?_ | refine al_gyes rfl rfl rfl rfl rfl (ao_lenV Try.underlying35 rfl hu2x) ?_ | refine al_gyes rfl rfl rfl rfl rfl (ao_lenV Try.underlying35 rfl hu1x) ?_
      refine al_gyes rfl rfl rfl rfl rfl (ao_neq rfl rfl) ?_
      refine al_opd rfl rfl rfl (ao_pickF rfl (v := .bool _) rfl) ?_
      refine al_opd rfl rfl rfl (ao_mv (v := .bool _) rfl) ?_
      refine al_cases (d := 133) rfl (fun h9_ => ?_) (fun h9_ => ?_)
      · try simp only [nrm] at h9_
        first | done | omega | (exfalso; revert h9_; simp; (first | done | omega))
      try simp only [nrm] at h9_
      refine al_gyes rfl rfl rfl rfl rfl (ao_mv (v := .int _ _) rfl) ?_
      refine al_gyes rfl rfl rfl rfl rfl (ao_neq rfl rfl) ?_
      refine al_opd rfl rfl rfl (ao_pickF rfl (v := .bool _) rfl) ?_
      refine al_opd rfl rfl rfl (ao_mv (v := .bool _) rfl) ?_
      refine al_cases (d := 137) rfl (fun h10_ => ?_) (fun h10_ => ?_)
      · try simp only [nrm] at h10_
        first | done | omega | (exfalso; revert h10_; simp; (first | done | omega))
      try simp only [nrm] at h10_
      refine al_gyes rfl rfl rfl rfl rfl (ao_mv (v := .int _ _) rfl) ?_
      refine al_gyes rfl rfl rfl rfl rfl (ao_eql rfl rfl) ?_
      first | refine al_gyes rfl rfl rfl rfl rfl (ao_mv (v := .slice _ _ _) rfl) ?_ | refine al_gyes rfl rfl rfl rfl rfl (ao_mv (v := cv) rfl) ?_ | refine al_gyes rfl rfl rfl rfl rfl (ao_mv (v := du) rfl) ?_ | refine al_gyes rfl rfl rfl rfl rfl (ao_mv (v := u1) rfl) ?_ | refine al_gyes rfl rfl rfl rfl rfl (ao_mv (v := u2) rfl) ?_
      first | refine al_gyes rfl rfl rfl rfl rfl (ao_loada Try.isAgg31 Try.sizeOf31 rfl (by exact HLp) (by rfl) (by first | rfl | exact four_get _ _ (by omega) | (simp; (first | done | fail)))) ?_ | refine al_gyes rfl rfl rfl rfl rfl (ao_loadsV (A := #[.int _ _, .int _ _]) Try.isAgg31 Try.sizeOf31 hu2x rfl hx0 rfl (by decide)) ?_ | refine al_gyes rfl rfl rfl rfl rfl (ao_loadsV (A := #[.int _ _, .int _ _]) Try.isAgg31 Try.sizeOf31 hu2x rfl hxl rfl (by decide)) ?_ | refine al_gyes rfl rfl rfl rfl rfl (ao_loadsV (A := #[.int _ _, .int _ _]) Try.isAgg31 Try.sizeOf31 hu2x rfl hxp rfl (by decide)) ?_ | refine al_gyes rfl rfl rfl rfl rfl (ao_loadsV (A := #[.int _ _, .int _ _]) Try.isAgg31 Try.sizeOf31 hu2x rfl hxc rfl (by decide)) ?_ | refine al_gyes rfl rfl rfl rfl rfl (ao_loadsV (A := #[.int _ _, .int _ _]) Try.isAgg31 Try.sizeOf31 hu1x rfl hx0 rfl (by decide)) ?_ | refine al_gyes rfl rfl rfl rfl rfl (ao_loadsV (A := #[.int _ _, .int _ _]) Try.isAgg31 Try.sizeOf31 hu1x rfl hxl rfl (by decide)) ?_ | refine al_gyes rfl rfl rfl rfl rfl (ao_loadsV (A := #[.int _ _, .int _ _]) Try.isAgg31 Try.sizeOf31 hu1x rfl hxp rfl (by decide)) ?_ | refine al_gyes rfl rfl rfl rfl rfl (ao_loadsV (A := #[.int _ _, .int _ _]) Try.isAgg31 Try.sizeOf31 hu1x rfl hxc rfl (by decide)) ?_
      refine al_gyes rfl rfl rfl rfl rfl (ao_calld (ACd.val (a2has_c (l := (nearL r a 100)) (x := b) hptx (by omega)) (congrArg Value.bool (step_has hfa))) Try.call13 rfl rfl) ?_
      refine al_gyes rfl rfl rfl rfl rfl (ao_neB Try.underlying4 rfl rfl) ?_
      refine al_opd rfl rfl rfl (ao_pickF rfl (v := .bool _) rfl) ?_
      refine al_opd rfl rfl rfl (ao_mv (v := .bool _) rfl) ?_
      refine al_cases (d := 145) rfl (fun h11_ => ?_) (fun h11_ => ?_)
      · try simp only [nrm] at h11_
        first | done | omega | (exfalso; revert h11_; simp; (first | done | omega))
      try simp only [nrm] at h11_
      refine al_gyes rfl rfl rfl rfl rfl (ao_mv (v := .int _ _) rfl) ?_
      refine al_gyes rfl rfl rfl rfl rfl (ao_neq rfl rfl) ?_
      refine al_gyes rfl rfl rfl rfl rfl (ao_mv (v := .bool _) rfl) ?_
      refine al_cases (d := 148) rfl (fun h12_ => ?_) (fun h12_ => ?_)
      · try simp only [nrm] at h12_
        refine al_gyes rfl rfl rfl rfl rfl (ao_mv (v := .int _ _) rfl) ?_
        refine al_gyes rfl rfl rfl rfl rfl (ao_neq rfl rfl) ?_
        refine al_gyes rfl rfl rfl rfl rfl (ao_pickT rfl (v := .bool _) rfl) ?_
        refine al_opd rfl rfl rfl (ao_pickF rfl (v := .bool _) rfl) ?_
        refine al_nilT ?_
        exact ⟨_, rfl, rfl, rfl, rfl, rfl, rfl, rfl, rfl, rfl, by first | rfl | exact congrArg Value.bool (by rw [bne_eq_false_iff_eq]; omega)⟩
      · try simp only [nrm] at h12_
        refine al_gno rfl rfl rfl rfl rfl ?_
        refine al_gno rfl rfl rfl rfl rfl ?_
        refine al_gyes rfl rfl rfl rfl rfl (ao_pickF rfl (v := .bool _) rfl) ?_
        refine al_opd rfl rfl rfl (ao_pickF rfl (v := .bool _) rfl) ?_
        refine al_nilT ?_
        exact ⟨_, rfl, rfl, rfl, rfl, rfl, rfl, rfl, rfl, rfl, by first | rfl | exact congrArg Value.bool (by rw [bne_eq_false_iff_eq]; omega)⟩
    · rintro fr G ⟨get, rfl, rfl, g5, g6, g7, g9, g10, g16, g18, g152⟩
      refine aw_slot (d := 5) (v := .pointer (some ⟨b5, 0, none⟩)) g5 ?_
      refine aw_slot (d := 6) (v := .pointer (some ⟨b6, 0, none⟩)) g6 ?_
      refine aw_slot (d := 7) (v := .pointer (some ⟨b7, 0, none⟩)) g7 ?_
      refine aw_slot (d := 9) (v := .int .i64 (stepQ r a b)) g9 ?_
      refine aw_slot (d := 10) (v := .int .i64 (stepV r a b)) g10 ?_
      refine aw_slot (d := 16) (v := u2) g16 ?_
      refine aw_slot (d := 18) (v := .slice (some ⟨G2.next, 0, none⟩) (nearL r a 100).length ((nearL r a 100).length + 1)) g18 ?_
      refine aw_slot (d := 152) (v := .bool false) g152 ?_
      refine aw_condF (by rfl) ⟨_, rfl⟩ ?_
      refine aw_skipT ?_
      refine aw_seq ?_
      refine aw_seq ?_
      refine aw_region ?_
      refine al_opd rfl rfl rfl (ao_mv (v := .int _ _) rfl) ?_
      refine al_opd rfl rfl rfl (ao_eql rfl rfl) ?_
      refine al_nilT ?_
      refine aw_cut (fun (fr : AFr) (G : AHeap) => ∃ get : Nat → Value, fr = ⟨343, get⟩ ∧ ∃ (pt : Nat), Same H.next H G ∧ G.blk b5 = some (.cells (roomC r) 1) ∧ G.blk b6 = some (.cells (spot a) 1) ∧ G.blk b7 = some (.cells (spot b) 1) ∧ b5 < G.next ∧ b6 < G.next ∧ b7 < G.next ∧ H.next ≤ G.next ∧ G.blk pt = some (.cells (fl spot (nearL r a 100)) 2) ∧ pt < G.next ∧ get 5 = .pointer (some ⟨b5, 0, none⟩) ∧ get 6 = .pointer (some ⟨b6, 0, none⟩) ∧ get 7 = .pointer (some ⟨b7, 0, none⟩) ∧ get 18 = .slice (some ⟨pt, 0, none⟩) (nearL r a 100).length ((nearL r a 100).length + 1)) ?_ ?_
      · try skip
        refine aw_cond rfl (fun h13_ => ?_) (fun h13_ => ?_)
        · try simp only [nrm] at h13_
          have hwl := wayU_len hfa h13_
          have hx0 : (wayU r a b)[0]? = some a := wayU_at h13_ (by omega)
          have hxl : (wayU r a b)[(stepV r a b).toNat]? = some b := (wayU_at h13_ (by omega)).trans (by rw [pos_last hfa hfb h13_])
          refine aw_seq ?_
          refine aw_seq ?_
          refine aw_draw (m := 20) mo (by kernel_rfl) rfl (fun _ _ _ h => h) ?_
          first | refine dw_opd rfl rfl rfl (ao_mv (v := .slice _ _ _) rfl) ?_ | refine dw_opd rfl rfl rfl (ao_mv (v := cv) rfl) ?_ | refine dw_opd rfl rfl rfl (ao_mv (v := du) rfl) ?_ | refine dw_opd rfl rfl rfl (ao_mv (v := u1) rfl) ?_ | refine dw_opd rfl rfl rfl (ao_mv (v := u2) rfl) ?_
          first | refine dw_opd rfl rfl rfl (ao_lenS Try.underlying35 (by rfl)) ?_ | refine dw_opd rfl rfl rfl (ao_lenN Try.underlying35 (by rfl)) ?_ | refine dw_opd rfl rfl rfl (ao_lenV Try.underlying35 rfl hu2x) ?_ | refine dw_opd rfl rfl rfl (ao_lenV Try.underlying35 rfl hu1x) ?_
          refine dw_opd rfl rfl rfl (ao_mv (v := .int _ _) rfl) ?_
          first | refine dw_opd rfl rfl rfl ((ao_add rfl rfl).val (nw_i64 BDp BDp)) ?_ | refine dw_opd rfl rfl rfl (ao_add rfl rfl) ?_
          refine dw_opd rfl rfl rfl (ao_neq rfl rfl) ?_
          refine dw_opd rfl rfl rfl (ao_mv (v := .bool _) rfl) ?_
          refine dw_cases (d := 160) rfl (fun h14_ => ?_) (fun h14_ => ?_)
          · try simp only [nrm] at h14_
            first | done | omega | (exfalso; revert h14_; simp; (first | done | omega))
          try simp only [nrm] at h14_
          first | refine dw_gyes rfl rfl rfl rfl rfl (ao_mv (v := .slice _ _ _) rfl) ?_ | refine dw_gyes rfl rfl rfl rfl rfl (ao_mv (v := cv) rfl) ?_ | refine dw_gyes rfl rfl rfl rfl rfl (ao_mv (v := du) rfl) ?_ | refine dw_gyes rfl rfl rfl rfl rfl (ao_mv (v := u1) rfl) ?_ | refine dw_gyes rfl rfl rfl rfl rfl (ao_mv (v := u2) rfl) ?_
          first | refine dw_gyes rfl rfl rfl rfl rfl (ao_indexAddrS Try.underlying35 Try.sizeOf31 rfl rfl (by exact IXp) (by exact IXp)) ?_ | refine dw_gyes rfl rfl rfl rfl rfl (ao_indexV Try.underlying35 Try.sizeOf31 rfl rfl hu2x (by exact IXp) (by exact IXp)) ?_ | refine dw_gyes rfl rfl rfl rfl rfl (ao_indexV Try.underlying35 Try.sizeOf31 rfl rfl hu1x (by exact IXp) (by exact IXp)) ?_
          first | refine dw_gyes rfl rfl rfl rfl rfl (ao_loada Try.isAgg31 Try.sizeOf31 rfl (by exact HLp) (by rfl) (by first | rfl | exact four_get _ _ (by omega) | (simp; (first | done | fail)))) ?_ | refine dw_gyes rfl rfl rfl rfl rfl (ao_loadsV (A := #[.int _ _, .int _ _]) Try.isAgg31 Try.sizeOf31 hu2x rfl hx0 rfl (by decide)) ?_ | refine dw_gyes rfl rfl rfl rfl rfl (ao_loadsV (A := #[.int _ _, .int _ _]) Try.isAgg31 Try.sizeOf31 hu2x rfl hxl rfl (by decide)) ?_ | refine dw_gyes rfl rfl rfl rfl rfl (ao_loadsV (A := #[.int _ _, .int _ _]) Try.isAgg31 Try.sizeOf31 hu2x rfl hxp rfl (by decide)) ?_ | refine dw_gyes rfl rfl rfl rfl rfl (ao_loadsV (A := #[.int _ _, .int _ _]) Try.isAgg31 Try.sizeOf31 hu2x rfl hxc rfl (by decide)) ?_ | refine dw_gyes rfl rfl rfl rfl rfl (ao_loadsV (A := #[.int _ _, .int _ _]) Try.isAgg31 Try.sizeOf31 hu1x rfl hx0 rfl (by decide)) ?_ | refine dw_gyes rfl rfl rfl rfl rfl (ao_loadsV (A := #[.int _ _, .int _ _]) Try.isAgg31 Try.sizeOf31 hu1x rfl hxl rfl (by decide)) ?_ | refine dw_gyes rfl rfl rfl rfl rfl (ao_loadsV (A := #[.int _ _, .int _ _]) Try.isAgg31 Try.sizeOf31 hu1x rfl hxp rfl (by decide)) ?_ | refine dw_gyes rfl rfl rfl rfl rfl (ao_loadsV (A := #[.int _ _, .int _ _]) Try.isAgg31 Try.sizeOf31 hu1x rfl hxc rfl (by decide)) ?_
          first | refine dw_gyes rfl rfl rfl rfl rfl (ao_loada Try.isAgg31 Try.sizeOf31 rfl (by exact HLp) (by rfl) (by first | rfl | exact four_get _ _ (by omega) | (simp; (first | done | fail)))) ?_ | refine dw_gyes rfl rfl rfl rfl rfl (ao_loadsV (A := #[.int _ _, .int _ _]) Try.isAgg31 Try.sizeOf31 hu2x rfl hx0 rfl (by decide)) ?_ | refine dw_gyes rfl rfl rfl rfl rfl (ao_loadsV (A := #[.int _ _, .int _ _]) Try.isAgg31 Try.sizeOf31 hu2x rfl hxl rfl (by decide)) ?_ | refine dw_gyes rfl rfl rfl rfl rfl (ao_loadsV (A := #[.int _ _, .int _ _]) Try.isAgg31 Try.sizeOf31 hu2x rfl hxp rfl (by decide)) ?_ | refine dw_gyes rfl rfl rfl rfl rfl (ao_loadsV (A := #[.int _ _, .int _ _]) Try.isAgg31 Try.sizeOf31 hu2x rfl hxc rfl (by decide)) ?_ | refine dw_gyes rfl rfl rfl rfl rfl (ao_loadsV (A := #[.int _ _, .int _ _]) Try.isAgg31 Try.sizeOf31 hu1x rfl hx0 rfl (by decide)) ?_ | refine dw_gyes rfl rfl rfl rfl rfl (ao_loadsV (A := #[.int _ _, .int _ _]) Try.isAgg31 Try.sizeOf31 hu1x rfl hxl rfl (by decide)) ?_ | refine dw_gyes rfl rfl rfl rfl rfl (ao_loadsV (A := #[.int _ _, .int _ _]) Try.isAgg31 Try.sizeOf31 hu1x rfl hxp rfl (by decide)) ?_ | refine dw_gyes rfl rfl rfl rfl rfl (ao_loadsV (A := #[.int _ _, .int _ _]) Try.isAgg31 Try.sizeOf31 hu1x rfl hxc rfl (by decide)) ?_
          refine dw_gyes rfl rfl rfl rfl rfl (ao_neV Try.eqGuardType31 rfl rfl rfl rfl (eqS31 _ _ _ _)) ?_
          refine dw_opd rfl rfl rfl (ao_pickF rfl (v := .bool _) rfl) ?_
          refine dw_opd rfl rfl rfl (ao_mv (v := .bool _) rfl) ?_
          refine dw_cases (d := 167) rfl (fun h15_ => ?_) (fun h15_ => ?_)
          · try simp only [nrm] at h15_
            first | done | omega | (exfalso; revert h15_; simp; (first | done | omega))
          try simp only [nrm] at h15_
          first | refine dw_gyes rfl rfl rfl rfl rfl (ao_mv (v := .slice _ _ _) rfl) ?_ | refine dw_gyes rfl rfl rfl rfl rfl (ao_mv (v := cv) rfl) ?_ | refine dw_gyes rfl rfl rfl rfl rfl (ao_mv (v := du) rfl) ?_ | refine dw_gyes rfl rfl rfl rfl rfl (ao_mv (v := u1) rfl) ?_ | refine dw_gyes rfl rfl rfl rfl rfl (ao_mv (v := u2) rfl) ?_
          refine dw_gyes rfl rfl rfl rfl rfl (ao_mv (v := .int _ _) rfl) ?_
          first | refine dw_gyes rfl rfl rfl rfl rfl (ao_indexAddrS Try.underlying35 Try.sizeOf31 rfl rfl (by exact IXp) (by exact IXp)) ?_ | refine dw_gyes rfl rfl rfl rfl rfl (ao_indexV Try.underlying35 Try.sizeOf31 rfl rfl hu2x (by exact IXp) (by exact IXp)) ?_ | refine dw_gyes rfl rfl rfl rfl rfl (ao_indexV Try.underlying35 Try.sizeOf31 rfl rfl hu1x (by exact IXp) (by exact IXp)) ?_
          first | refine dw_gyes rfl rfl rfl rfl rfl (ao_loada Try.isAgg31 Try.sizeOf31 rfl (by exact HLp) (by rfl) (by first | rfl | exact four_get _ _ (by omega) | (simp; (first | done | fail)))) ?_ | refine dw_gyes rfl rfl rfl rfl rfl (ao_loadsV (A := #[.int _ _, .int _ _]) Try.isAgg31 Try.sizeOf31 hu2x rfl hx0 rfl (by decide)) ?_ | refine dw_gyes rfl rfl rfl rfl rfl (ao_loadsV (A := #[.int _ _, .int _ _]) Try.isAgg31 Try.sizeOf31 hu2x rfl hxl rfl (by decide)) ?_ | refine dw_gyes rfl rfl rfl rfl rfl (ao_loadsV (A := #[.int _ _, .int _ _]) Try.isAgg31 Try.sizeOf31 hu2x rfl hxp rfl (by decide)) ?_ | refine dw_gyes rfl rfl rfl rfl rfl (ao_loadsV (A := #[.int _ _, .int _ _]) Try.isAgg31 Try.sizeOf31 hu2x rfl hxc rfl (by decide)) ?_ | refine dw_gyes rfl rfl rfl rfl rfl (ao_loadsV (A := #[.int _ _, .int _ _]) Try.isAgg31 Try.sizeOf31 hu1x rfl hx0 rfl (by decide)) ?_ | refine dw_gyes rfl rfl rfl rfl rfl (ao_loadsV (A := #[.int _ _, .int _ _]) Try.isAgg31 Try.sizeOf31 hu1x rfl hxl rfl (by decide)) ?_ | refine dw_gyes rfl rfl rfl rfl rfl (ao_loadsV (A := #[.int _ _, .int _ _]) Try.isAgg31 Try.sizeOf31 hu1x rfl hxp rfl (by decide)) ?_ | refine dw_gyes rfl rfl rfl rfl rfl (ao_loadsV (A := #[.int _ _, .int _ _]) Try.isAgg31 Try.sizeOf31 hu1x rfl hxc rfl (by decide)) ?_
          first | refine dw_gyes rfl rfl rfl rfl rfl (ao_loada Try.isAgg31 Try.sizeOf31 rfl (by exact HLp) (by rfl) (by first | rfl | exact four_get _ _ (by omega) | (simp; (first | done | fail)))) ?_ | refine dw_gyes rfl rfl rfl rfl rfl (ao_loadsV (A := #[.int _ _, .int _ _]) Try.isAgg31 Try.sizeOf31 hu2x rfl hx0 rfl (by decide)) ?_ | refine dw_gyes rfl rfl rfl rfl rfl (ao_loadsV (A := #[.int _ _, .int _ _]) Try.isAgg31 Try.sizeOf31 hu2x rfl hxl rfl (by decide)) ?_ | refine dw_gyes rfl rfl rfl rfl rfl (ao_loadsV (A := #[.int _ _, .int _ _]) Try.isAgg31 Try.sizeOf31 hu2x rfl hxp rfl (by decide)) ?_ | refine dw_gyes rfl rfl rfl rfl rfl (ao_loadsV (A := #[.int _ _, .int _ _]) Try.isAgg31 Try.sizeOf31 hu2x rfl hxc rfl (by decide)) ?_ | refine dw_gyes rfl rfl rfl rfl rfl (ao_loadsV (A := #[.int _ _, .int _ _]) Try.isAgg31 Try.sizeOf31 hu1x rfl hx0 rfl (by decide)) ?_ | refine dw_gyes rfl rfl rfl rfl rfl (ao_loadsV (A := #[.int _ _, .int _ _]) Try.isAgg31 Try.sizeOf31 hu1x rfl hxl rfl (by decide)) ?_ | refine dw_gyes rfl rfl rfl rfl rfl (ao_loadsV (A := #[.int _ _, .int _ _]) Try.isAgg31 Try.sizeOf31 hu1x rfl hxp rfl (by decide)) ?_ | refine dw_gyes rfl rfl rfl rfl rfl (ao_loadsV (A := #[.int _ _, .int _ _]) Try.isAgg31 Try.sizeOf31 hu1x rfl hxc rfl (by decide)) ?_
          refine dw_gyes rfl rfl rfl rfl rfl (ao_neV Try.eqGuardType31 rfl rfl rfl rfl (eqS31 _ _ _ _)) ?_
          refine dw_opd rfl rfl rfl (ao_pickF rfl (v := .bool _) rfl) ?_
          refine dw_end ?_
          refine al_nilT ?_
          refine aw_cond rfl (fun h16_ => ?_) (fun h16_ => ?_)
          · try simp only [nrm] at h16_
            first | done | omega | (exfalso; revert h16_; simp; (first | done | omega))
          try simp only [nrm] at h16_
          refine aw_skipT ?_
          refine aw_seq ?_
          refine aw_region ?_
          refine al_opd rfl rfl rfl (ao_as (v := .int _ _) rfl) ?_
          refine al_nilT ?_
          refine aw_block ?_
          refine aw_loop (fun (gk : Nat) (fr : AFr) (G : AHeap) => ∃ get : Nat → Value, fr = ⟨343, get⟩ ∧ (∃ i : Nat, 1 ≤ i ∧ i ≤ (wayU r a b).length ∧ gk = (wayU r a b).length - i ∧ G = (G2.push (.cells (fl spot (nearL r a 100)) 2)) ∧ get 5 = .pointer (some ⟨b5, 0, none⟩) ∧ get 6 = .pointer (some ⟨b6, 0, none⟩) ∧ get 7 = .pointer (some ⟨b7, 0, none⟩) ∧ get 16 = u2 ∧ get 18 = .slice (some ⟨G2.next, 0, none⟩) (nearL r a 100).length ((nearL r a 100).length + 1) ∧ get 20 = .int .i64 i)) ((wayU r a b).length - 1) ⟨_, rfl, ?_⟩ ?_
          · exact ⟨1, Nat.le_refl _, by omega, rfl, rfl, rfl, rfl, rfl, rfl, rfl, rfl⟩
          · rintro gk fr G ⟨get, rfl, i, h1i, hi, rfl, rfl, g5, g6, g7, g16, g18, g20⟩
            refine aw_slot (d := 5) (v := .pointer (some ⟨b5, 0, none⟩)) (by first | assumption | rfl) ?_
            refine aw_slot (d := 6) (v := .pointer (some ⟨b6, 0, none⟩)) (by first | assumption | rfl) ?_
            refine aw_slot (d := 7) (v := .pointer (some ⟨b7, 0, none⟩)) (by first | assumption | rfl) ?_
            refine aw_slot (d := 16) (v := u2) (by first | assumption | rfl) ?_
            refine aw_slot (d := 18) (v := .slice (some ⟨G2.next, 0, none⟩) (nearL r a 100).length ((nearL r a 100).length + 1)) (by first | assumption | rfl) ?_
            refine aw_slot (d := 20) (v := .int .i64 i) (by first | assumption | rfl) ?_
            refine aw_seq ?_
            refine aw_seq ?_
            refine aw_region ?_
            refine al_opd rfl rfl rfl (ao_mv (v := .int _ _) rfl) ?_
            first | refine al_opd rfl rfl rfl (ao_mv (v := .slice _ _ _) rfl) ?_ | refine al_opd rfl rfl rfl (ao_mv (v := cv) rfl) ?_ | refine al_opd rfl rfl rfl (ao_mv (v := du) rfl) ?_ | refine al_opd rfl rfl rfl (ao_mv (v := u1) rfl) ?_ | refine al_opd rfl rfl rfl (ao_mv (v := u2) rfl) ?_
            first | refine al_opd rfl rfl rfl (ao_lenS Try.underlying35 (by rfl)) ?_ | refine al_opd rfl rfl rfl (ao_lenN Try.underlying35 (by rfl)) ?_ | refine al_opd rfl rfl rfl (ao_lenV Try.underlying35 rfl hu2x) ?_ | refine al_opd rfl rfl rfl (ao_lenV Try.underlying35 rfl hu1x) ?_
            refine al_opd rfl rfl rfl (ao_lss rfl rfl) ?_
            refine al_nilT ?_
            refine aw_cond rfl (fun h17_ => ?_) (fun h17_ => ?_)
            · try simp only [nrm] at h17_
              obtain ⟨hfp, hfi, hsd⟩ := pos_prev hfa hfb h13_ h1i (show (i : Int) ≤ stepV r a b by omega)
              have hxp : (wayU r a b)[((i : Int) - 1).toNat]? = some (posW r a b (i - 1)) := by rw [show ((i : Int) - 1).toNat = i - 1 by omega]; exact wayU_at h13_ (by omega)
              have hxc : (wayU r a b)[i]? = some (posW r a b i) := wayU_at h13_ (by omega)
              obtain ⟨q, hq⟩ := exists_first (sideAt (posW r a b (i - 1)) (posW r a b i)) 4
              have hq0 := (firstAt_ge hq).mpr hsd
              refine aw_skipT ?_
              refine aw_seq ?_
              refine aw_block ?_
              refine aw_seq ?_
              refine aw_draw (m := 20) mo (by kernel_rfl) rfl (fun _ _ _ h => h) ?_
              first | refine dw_opd rfl rfl rfl (ao_mv (v := .slice _ _ _) rfl) ?_ | refine dw_opd rfl rfl rfl (ao_mv (v := cv) rfl) ?_ | refine dw_opd rfl rfl rfl (ao_mv (v := du) rfl) ?_ | refine dw_opd rfl rfl rfl (ao_mv (v := u1) rfl) ?_ | refine dw_opd rfl rfl rfl (ao_mv (v := u2) rfl) ?_
              refine dw_opd rfl rfl rfl (ao_mv (v := .int _ _) rfl) ?_
              first | refine dw_opd rfl rfl rfl ((ao_sub rfl rfl).val (nw_i64 BDp BDp)) ?_ | refine dw_opd rfl rfl rfl (ao_sub rfl rfl) ?_
              first | refine dw_opd rfl rfl rfl (ao_indexAddrS Try.underlying35 Try.sizeOf31 rfl rfl (by exact IXp) (by exact IXp)) ?_ | refine dw_opd rfl rfl rfl (ao_indexV Try.underlying35 Try.sizeOf31 rfl rfl hu2x (by exact IXp) (by exact IXp)) ?_ | refine dw_opd rfl rfl rfl (ao_indexV Try.underlying35 Try.sizeOf31 rfl rfl hu1x (by exact IXp) (by exact IXp)) ?_
              first | refine dw_opd rfl rfl rfl (ao_loada Try.isAgg31 Try.sizeOf31 rfl (by exact HLp) (by rfl) (by first | rfl | exact four_get _ _ (by omega) | (simp; (first | done | fail)))) ?_ | refine dw_opd rfl rfl rfl (ao_loadsV (A := #[.int _ _, .int _ _]) Try.isAgg31 Try.sizeOf31 hu2x rfl hx0 rfl (by decide)) ?_ | refine dw_opd rfl rfl rfl (ao_loadsV (A := #[.int _ _, .int _ _]) Try.isAgg31 Try.sizeOf31 hu2x rfl hxl rfl (by decide)) ?_ | refine dw_opd rfl rfl rfl (ao_loadsV (A := #[.int _ _, .int _ _]) Try.isAgg31 Try.sizeOf31 hu2x rfl hxp rfl (by decide)) ?_ | refine dw_opd rfl rfl rfl (ao_loadsV (A := #[.int _ _, .int _ _]) Try.isAgg31 Try.sizeOf31 hu2x rfl hxc rfl (by decide)) ?_ | refine dw_opd rfl rfl rfl (ao_loadsV (A := #[.int _ _, .int _ _]) Try.isAgg31 Try.sizeOf31 hu1x rfl hx0 rfl (by decide)) ?_ | refine dw_opd rfl rfl rfl (ao_loadsV (A := #[.int _ _, .int _ _]) Try.isAgg31 Try.sizeOf31 hu1x rfl hxl rfl (by decide)) ?_ | refine dw_opd rfl rfl rfl (ao_loadsV (A := #[.int _ _, .int _ _]) Try.isAgg31 Try.sizeOf31 hu1x rfl hxp rfl (by decide)) ?_ | refine dw_opd rfl rfl rfl (ao_loadsV (A := #[.int _ _, .int _ _]) Try.isAgg31 Try.sizeOf31 hu1x rfl hxc rfl (by decide)) ?_
              first | refine dw_opd rfl rfl rfl (ao_mv (v := .slice _ _ _) rfl) ?_ | refine dw_opd rfl rfl rfl (ao_mv (v := cv) rfl) ?_ | refine dw_opd rfl rfl rfl (ao_mv (v := du) rfl) ?_ | refine dw_opd rfl rfl rfl (ao_mv (v := u1) rfl) ?_ | refine dw_opd rfl rfl rfl (ao_mv (v := u2) rfl) ?_
              refine dw_opd rfl rfl rfl (ao_mv (v := .int _ _) rfl) ?_
              first | refine dw_opd rfl rfl rfl (ao_indexAddrS Try.underlying35 Try.sizeOf31 rfl rfl (by exact IXp) (by exact IXp)) ?_ | refine dw_opd rfl rfl rfl (ao_indexV Try.underlying35 Try.sizeOf31 rfl rfl hu2x (by exact IXp) (by exact IXp)) ?_ | refine dw_opd rfl rfl rfl (ao_indexV Try.underlying35 Try.sizeOf31 rfl rfl hu1x (by exact IXp) (by exact IXp)) ?_
              first | refine dw_opd rfl rfl rfl (ao_loada Try.isAgg31 Try.sizeOf31 rfl (by exact HLp) (by rfl) (by first | rfl | exact four_get _ _ (by omega) | (simp; (first | done | fail)))) ?_ | refine dw_opd rfl rfl rfl (ao_loadsV (A := #[.int _ _, .int _ _]) Try.isAgg31 Try.sizeOf31 hu2x rfl hx0 rfl (by decide)) ?_ | refine dw_opd rfl rfl rfl (ao_loadsV (A := #[.int _ _, .int _ _]) Try.isAgg31 Try.sizeOf31 hu2x rfl hxl rfl (by decide)) ?_ | refine dw_opd rfl rfl rfl (ao_loadsV (A := #[.int _ _, .int _ _]) Try.isAgg31 Try.sizeOf31 hu2x rfl hxp rfl (by decide)) ?_ | refine dw_opd rfl rfl rfl (ao_loadsV (A := #[.int _ _, .int _ _]) Try.isAgg31 Try.sizeOf31 hu2x rfl hxc rfl (by decide)) ?_ | refine dw_opd rfl rfl rfl (ao_loadsV (A := #[.int _ _, .int _ _]) Try.isAgg31 Try.sizeOf31 hu1x rfl hx0 rfl (by decide)) ?_ | refine dw_opd rfl rfl rfl (ao_loadsV (A := #[.int _ _, .int _ _]) Try.isAgg31 Try.sizeOf31 hu1x rfl hxl rfl (by decide)) ?_ | refine dw_opd rfl rfl rfl (ao_loadsV (A := #[.int _ _, .int _ _]) Try.isAgg31 Try.sizeOf31 hu1x rfl hxp rfl (by decide)) ?_ | refine dw_opd rfl rfl rfl (ao_loadsV (A := #[.int _ _, .int _ _]) Try.isAgg31 Try.sizeOf31 hu1x rfl hxc rfl (by decide)) ?_
              refine dw_opd rfl rfl rfl (ao_calld (specSide_c (a := posW r a b (i - 1)) (b := posW r a b i) hq) Try.call14 rfl rfl) ?_
              refine dw_opd rfl rfl rfl (ao_lss rfl rfl) ?_
              refine dw_opd rfl rfl rfl (ao_mv (v := .bool _) rfl) ?_
              refine dw_cases (d := 192) rfl (fun h18_ => ?_) (fun h18_ => ?_)
              · try simp only [nrm] at h18_
                first | done | omega | (exfalso; revert h18_; simp; (first | done | omega))
              try simp only [nrm] at h18_
              first | refine dw_gyes rfl rfl rfl rfl rfl (ao_loada Try.isAgg28 Try.sizeOf28 rfl (by exact HLp) (by rfl) (by first | rfl | exact four_get _ _ (by omega) | (simp; (first | done | fail)))) ?_ | refine dw_gyes rfl rfl rfl rfl rfl (ao_loadsV (A := #[.int _ _, .int _ _, .int _ _, .int _ _, .int _ _, .int _ _, .int _ _, .int _ _, .int _ _, .int _ _, .int _ _, .int _ _]) Try.isAgg28 Try.sizeOf28 hu2x rfl hx0 rfl (by decide)) ?_ | refine dw_gyes rfl rfl rfl rfl rfl (ao_loadsV (A := #[.int _ _, .int _ _, .int _ _, .int _ _, .int _ _, .int _ _, .int _ _, .int _ _, .int _ _, .int _ _, .int _ _, .int _ _]) Try.isAgg28 Try.sizeOf28 hu2x rfl hxl rfl (by decide)) ?_ | refine dw_gyes rfl rfl rfl rfl rfl (ao_loadsV (A := #[.int _ _, .int _ _, .int _ _, .int _ _, .int _ _, .int _ _, .int _ _, .int _ _, .int _ _, .int _ _, .int _ _, .int _ _]) Try.isAgg28 Try.sizeOf28 hu2x rfl hxp rfl (by decide)) ?_ | refine dw_gyes rfl rfl rfl rfl rfl (ao_loadsV (A := #[.int _ _, .int _ _, .int _ _, .int _ _, .int _ _, .int _ _, .int _ _, .int _ _, .int _ _, .int _ _, .int _ _, .int _ _]) Try.isAgg28 Try.sizeOf28 hu2x rfl hxc rfl (by decide)) ?_ | refine dw_gyes rfl rfl rfl rfl rfl (ao_loadsV (A := #[.int _ _, .int _ _, .int _ _, .int _ _, .int _ _, .int _ _, .int _ _, .int _ _, .int _ _, .int _ _, .int _ _, .int _ _]) Try.isAgg28 Try.sizeOf28 hu1x rfl hx0 rfl (by decide)) ?_ | refine dw_gyes rfl rfl rfl rfl rfl (ao_loadsV (A := #[.int _ _, .int _ _, .int _ _, .int _ _, .int _ _, .int _ _, .int _ _, .int _ _, .int _ _, .int _ _, .int _ _, .int _ _]) Try.isAgg28 Try.sizeOf28 hu1x rfl hxl rfl (by decide)) ?_ | refine dw_gyes rfl rfl rfl rfl rfl (ao_loadsV (A := #[.int _ _, .int _ _, .int _ _, .int _ _, .int _ _, .int _ _, .int _ _, .int _ _, .int _ _, .int _ _, .int _ _, .int _ _]) Try.isAgg28 Try.sizeOf28 hu1x rfl hxp rfl (by decide)) ?_ | refine dw_gyes rfl rfl rfl rfl rfl (ao_loadsV (A := #[.int _ _, .int _ _, .int _ _, .int _ _, .int _ _, .int _ _, .int _ _, .int _ _, .int _ _, .int _ _, .int _ _, .int _ _]) Try.isAgg28 Try.sizeOf28 hu1x rfl hxc rfl (by decide)) ?_
              first | refine dw_gyes rfl rfl rfl rfl rfl (ao_mv (v := .slice _ _ _) rfl) ?_ | refine dw_gyes rfl rfl rfl rfl rfl (ao_mv (v := cv) rfl) ?_ | refine dw_gyes rfl rfl rfl rfl rfl (ao_mv (v := du) rfl) ?_ | refine dw_gyes rfl rfl rfl rfl rfl (ao_mv (v := u1) rfl) ?_ | refine dw_gyes rfl rfl rfl rfl rfl (ao_mv (v := u2) rfl) ?_
              refine dw_gyes rfl rfl rfl rfl rfl (ao_mv (v := .int _ _) rfl) ?_
              first | refine dw_gyes rfl rfl rfl rfl rfl (ao_indexAddrS Try.underlying35 Try.sizeOf31 rfl rfl (by exact IXp) (by exact IXp)) ?_ | refine dw_gyes rfl rfl rfl rfl rfl (ao_indexV Try.underlying35 Try.sizeOf31 rfl rfl hu2x (by exact IXp) (by exact IXp)) ?_ | refine dw_gyes rfl rfl rfl rfl rfl (ao_indexV Try.underlying35 Try.sizeOf31 rfl rfl hu1x (by exact IXp) (by exact IXp)) ?_
              first | refine dw_gyes rfl rfl rfl rfl rfl (ao_loada Try.isAgg31 Try.sizeOf31 rfl (by exact HLp) (by rfl) (by first | rfl | exact four_get _ _ (by omega) | (simp; (first | done | fail)))) ?_ | refine dw_gyes rfl rfl rfl rfl rfl (ao_loadsV (A := #[.int _ _, .int _ _]) Try.isAgg31 Try.sizeOf31 hu2x rfl hx0 rfl (by decide)) ?_ | refine dw_gyes rfl rfl rfl rfl rfl (ao_loadsV (A := #[.int _ _, .int _ _]) Try.isAgg31 Try.sizeOf31 hu2x rfl hxl rfl (by decide)) ?_ | refine dw_gyes rfl rfl rfl rfl rfl (ao_loadsV (A := #[.int _ _, .int _ _]) Try.isAgg31 Try.sizeOf31 hu2x rfl hxp rfl (by decide)) ?_ | refine dw_gyes rfl rfl rfl rfl rfl (ao_loadsV (A := #[.int _ _, .int _ _]) Try.isAgg31 Try.sizeOf31 hu2x rfl hxc rfl (by decide)) ?_ | refine dw_gyes rfl rfl rfl rfl rfl (ao_loadsV (A := #[.int _ _, .int _ _]) Try.isAgg31 Try.sizeOf31 hu1x rfl hx0 rfl (by decide)) ?_ | refine dw_gyes rfl rfl rfl rfl rfl (ao_loadsV (A := #[.int _ _, .int _ _]) Try.isAgg31 Try.sizeOf31 hu1x rfl hxl rfl (by decide)) ?_ | refine dw_gyes rfl rfl rfl rfl rfl (ao_loadsV (A := #[.int _ _, .int _ _]) Try.isAgg31 Try.sizeOf31 hu1x rfl hxp rfl (by decide)) ?_ | refine dw_gyes rfl rfl rfl rfl rfl (ao_loadsV (A := #[.int _ _, .int _ _]) Try.isAgg31 Try.sizeOf31 hu1x rfl hxc rfl (by decide)) ?_
              refine dw_gyes rfl rfl rfl rfl rfl (ao_calld (specIsFree_c (r := r) (s := posW r a b i) (b := true) hw (wf_of_free hfi) ⟨fun _ => ⟨hr, hfi⟩, fun _ => rfl⟩) Try.call15 rfl rfl) ?_
              refine dw_gyes rfl rfl rfl rfl rfl (ao_not rfl) ?_
              refine dw_opd rfl rfl rfl (ao_pickF rfl (v := .bool _) rfl) ?_
              refine dw_end ?_
              refine al_nilT ?_
              refine aw_cond rfl (fun h19_ => ?_) (fun h19_ => ?_)
              · try simp only [nrm] at h19_
                first | done | omega | (exfalso; revert h19_; simp; (first | done | omega))
              try simp only [nrm] at h19_
              refine aw_skipB ?_
              refine thenA_n ?_
              refine aw_region ?_
              refine al_opd rfl rfl rfl (ao_mv (v := .int _ _) rfl) ?_
              first | refine al_opd rfl rfl rfl ((ao_add rfl rfl).val (nw_i64 BDp BDp)) ?_ | refine al_opd rfl rfl rfl (ao_add rfl rfl) ?_
              refine al_opd rfl rfl rfl (ao_as (v := .int _ _) rfl) ?_
              refine al_nilT ?_
              exact ⟨_, by omega, _, rfl, i + 1, by omega, by omega, rfl, rfl, rfl, rfl, rfl, rfl, rfl, by rfl⟩
            · try simp only [nrm] at h17_
              refine aw_exit ?_
              refine thenA_x ?_
              refine thenA_x ?_
              refine blockA_hit ?_
              refine thenA_n ?_
              exact ⟨_, rfl, G2.next, by exact SMp, by exact HLp, by exact HLp, by exact HLp, by exact LNp, by exact LNp, by exact LNp, by exact LEp, by exact HLp, by exact LNp, rfl, rfl, rfl, rfl⟩
        · try simp only [nrm] at h13_
          refine aw_skipT ?_
          exact ⟨_, rfl, G2.next, by exact SMp, by exact HLp, by exact HLp, by exact HLp, by exact LNp, by exact LNp, by exact LNp, by exact LEp, by exact HLp, by exact LNp, rfl, rfl, rfl, rfl⟩
      · rintro fr G ⟨get, rfl, pt, hG, hp5, hp6, hp7, hl5, hl6, hl7, hge, hpk, hlp, g5, g6, g7, g18⟩
        refine aw_slot (d := 5) (v := .pointer (some ⟨b5, 0, none⟩)) g5 ?_
        refine aw_slot (d := 6) (v := .pointer (some ⟨b6, 0, none⟩)) g6 ?_
        refine aw_slot (d := 7) (v := .pointer (some ⟨b7, 0, none⟩)) g7 ?_
        refine aw_slot (d := 18) (v := .slice (some ⟨pt, 0, none⟩) (nearL r a 100).length ((nearL r a 100).length + 1)) g18 ?_
        refine aw_seq ?_
        refine aw_region ?_
        first | refine al_opd rfl rfl rfl (ao_loada Try.isAgg28 Try.sizeOf28 rfl (by exact HLp) (by rfl) (by first | rfl | exact four_get _ _ (by omega) | (simp; (first | done | fail)))) ?_ | refine al_opd rfl rfl rfl (ao_loadsV (A := #[.int _ _, .int _ _, .int _ _, .int _ _, .int _ _, .int _ _, .int _ _, .int _ _, .int _ _, .int _ _, .int _ _, .int _ _]) Try.isAgg28 Try.sizeOf28 hu2x rfl hx0 rfl (by decide)) ?_ | refine al_opd rfl rfl rfl (ao_loadsV (A := #[.int _ _, .int _ _, .int _ _, .int _ _, .int _ _, .int _ _, .int _ _, .int _ _, .int _ _, .int _ _, .int _ _, .int _ _]) Try.isAgg28 Try.sizeOf28 hu2x rfl hxl rfl (by decide)) ?_ | refine al_opd rfl rfl rfl (ao_loadsV (A := #[.int _ _, .int _ _, .int _ _, .int _ _, .int _ _, .int _ _, .int _ _, .int _ _, .int _ _, .int _ _, .int _ _, .int _ _]) Try.isAgg28 Try.sizeOf28 hu2x rfl hxp rfl (by decide)) ?_ | refine al_opd rfl rfl rfl (ao_loadsV (A := #[.int _ _, .int _ _, .int _ _, .int _ _, .int _ _, .int _ _, .int _ _, .int _ _, .int _ _, .int _ _, .int _ _, .int _ _]) Try.isAgg28 Try.sizeOf28 hu2x rfl hxc rfl (by decide)) ?_ | refine al_opd rfl rfl rfl (ao_loadsV (A := #[.int _ _, .int _ _, .int _ _, .int _ _, .int _ _, .int _ _, .int _ _, .int _ _, .int _ _, .int _ _, .int _ _, .int _ _]) Try.isAgg28 Try.sizeOf28 hu1x rfl hx0 rfl (by decide)) ?_ | refine al_opd rfl rfl rfl (ao_loadsV (A := #[.int _ _, .int _ _, .int _ _, .int _ _, .int _ _, .int _ _, .int _ _, .int _ _, .int _ _, .int _ _, .int _ _, .int _ _]) Try.isAgg28 Try.sizeOf28 hu1x rfl hxl rfl (by decide)) ?_ | refine al_opd rfl rfl rfl (ao_loadsV (A := #[.int _ _, .int _ _, .int _ _, .int _ _, .int _ _, .int _ _, .int _ _, .int _ _, .int _ _, .int _ _, .int _ _, .int _ _]) Try.isAgg28 Try.sizeOf28 hu1x rfl hxp rfl (by decide)) ?_ | refine al_opd rfl rfl rfl (ao_loadsV (A := #[.int _ _, .int _ _, .int _ _, .int _ _, .int _ _, .int _ _, .int _ _, .int _ _, .int _ _, .int _ _, .int _ _, .int _ _]) Try.isAgg28 Try.sizeOf28 hu1x rfl hxc rfl (by decide)) ?_
        first | refine al_opd rfl rfl rfl (ao_loada Try.isAgg31 Try.sizeOf31 rfl (by exact HLp) (by rfl) (by first | rfl | exact four_get _ _ (by omega) | (simp; (first | done | fail)))) ?_ | refine al_opd rfl rfl rfl (ao_loadsV (A := #[.int _ _, .int _ _]) Try.isAgg31 Try.sizeOf31 hu2x rfl hx0 rfl (by decide)) ?_ | refine al_opd rfl rfl rfl (ao_loadsV (A := #[.int _ _, .int _ _]) Try.isAgg31 Try.sizeOf31 hu2x rfl hxl rfl (by decide)) ?_ | refine al_opd rfl rfl rfl (ao_loadsV (A := #[.int _ _, .int _ _]) Try.isAgg31 Try.sizeOf31 hu2x rfl hxp rfl (by decide)) ?_ | refine al_opd rfl rfl rfl (ao_loadsV (A := #[.int _ _, .int _ _]) Try.isAgg31 Try.sizeOf31 hu2x rfl hxc rfl (by decide)) ?_ | refine al_opd rfl rfl rfl (ao_loadsV (A := #[.int _ _, .int _ _]) Try.isAgg31 Try.sizeOf31 hu1x rfl hx0 rfl (by decide)) ?_ | refine al_opd rfl rfl rfl (ao_loadsV (A := #[.int _ _, .int _ _]) Try.isAgg31 Try.sizeOf31 hu1x rfl hxl rfl (by decide)) ?_ | refine al_opd rfl rfl rfl (ao_loadsV (A := #[.int _ _, .int _ _]) Try.isAgg31 Try.sizeOf31 hu1x rfl hxp rfl (by decide)) ?_ | refine al_opd rfl rfl rfl (ao_loadsV (A := #[.int _ _, .int _ _]) Try.isAgg31 Try.sizeOf31 hu1x rfl hxc rfl (by decide)) ?_
        refine al_opd rfl rfl rfl (ao_calld (implFar1_c (r := r) (s := a) hw (wf_of_free hfa) (stood_free hr hfa rfl)) Try.call16 rfl rfl) ?_
        refine al_opd rfl rfl rfl (ao_mv (v := .tuple _) rfl) ?_
        first | refine al_opd rfl rfl rfl (ao_extract (v := cv) rfl rfl) ?_ | refine al_opd rfl rfl rfl (ao_extract (v := du) rfl rfl) ?_ | refine al_opd rfl rfl rfl (ao_extract (v := u1) rfl rfl) ?_ | refine al_opd rfl rfl rfl (ao_extract (v := u2) rfl rfl) ?_ | refine al_opd rfl rfl rfl (ao_extract (v := .agg _) rfl rfl) ?_
        refine al_opd rfl rfl rfl (ao_extract (v := .int _ _) rfl rfl) ?_
        refine al_opd rfl rfl rfl (ao_extract (v := .int _ _) rfl rfl) ?_
        refine al_opd rfl rfl rfl (ao_alloca (zv31) (by rfl)) ?_
        first | refine al_opd rfl rfl rfl ((ao_storeL Try.sizeOf31 (by rfl) (by rfl) (by exact HLp) (by first | rfl | exact four_get _ _ (by omega) | (simp; (first | done | fail))) (by first | rfl | exact four_get _ _ (by omega) | (simp; (first | done | fail))) (by first | rfl | exact four_get _ _ (by omega) | (simp; (first | done | fail)))).to (SetR.eq (by exact SRp))) ?_ | refine al_opd rfl rfl rfl ((ao_storeP (ds := [.int _ _, .int _ _]) Try.sizeOf31 (by rfl) (by rfl) (by exact HLp) (by first | rfl | exact four_get _ _ (by omega) | (simp; (first | done | fail))) (by first | rfl | exact four_get _ _ (by omega) | (simp; (first | done | fail))) (by exact LTp)).to (SetR.eq (by exact SRp))) ?_
        refine al_opd rfl rfl rfl (ao_as (v := .int _ _) rfl) ?_
        refine al_opd rfl rfl rfl (ao_as (v := .int _ _) rfl) ?_
        refine al_nilT ?_
        refine aw_seq ?_
        refine aw_region ?_
        first | refine al_opd rfl rfl rfl (ao_loada Try.isAgg28 Try.sizeOf28 rfl (by exact HLp) (by rfl) (by first | rfl | exact four_get _ _ (by omega) | (simp; (first | done | fail)))) ?_ | refine al_opd rfl rfl rfl (ao_loadsV (A := #[.int _ _, .int _ _, .int _ _, .int _ _, .int _ _, .int _ _, .int _ _, .int _ _, .int _ _, .int _ _, .int _ _, .int _ _]) Try.isAgg28 Try.sizeOf28 hu2x rfl hx0 rfl (by decide)) ?_ | refine al_opd rfl rfl rfl (ao_loadsV (A := #[.int _ _, .int _ _, .int _ _, .int _ _, .int _ _, .int _ _, .int _ _, .int _ _, .int _ _, .int _ _, .int _ _, .int _ _]) Try.isAgg28 Try.sizeOf28 hu2x rfl hxl rfl (by decide)) ?_ | refine al_opd rfl rfl rfl (ao_loadsV (A := #[.int _ _, .int _ _, .int _ _, .int _ _, .int _ _, .int _ _, .int _ _, .int _ _, .int _ _, .int _ _, .int _ _, .int _ _]) Try.isAgg28 Try.sizeOf28 hu2x rfl hxp rfl (by decide)) ?_ | refine al_opd rfl rfl rfl (ao_loadsV (A := #[.int _ _, .int _ _, .int _ _, .int _ _, .int _ _, .int _ _, .int _ _, .int _ _, .int _ _, .int _ _, .int _ _, .int _ _]) Try.isAgg28 Try.sizeOf28 hu2x rfl hxc rfl (by decide)) ?_ | refine al_opd rfl rfl rfl (ao_loadsV (A := #[.int _ _, .int _ _, .int _ _, .int _ _, .int _ _, .int _ _, .int _ _, .int _ _, .int _ _, .int _ _, .int _ _, .int _ _]) Try.isAgg28 Try.sizeOf28 hu1x rfl hx0 rfl (by decide)) ?_ | refine al_opd rfl rfl rfl (ao_loadsV (A := #[.int _ _, .int _ _, .int _ _, .int _ _, .int _ _, .int _ _, .int _ _, .int _ _, .int _ _, .int _ _, .int _ _, .int _ _]) Try.isAgg28 Try.sizeOf28 hu1x rfl hxl rfl (by decide)) ?_ | refine al_opd rfl rfl rfl (ao_loadsV (A := #[.int _ _, .int _ _, .int _ _, .int _ _, .int _ _, .int _ _, .int _ _, .int _ _, .int _ _, .int _ _, .int _ _, .int _ _]) Try.isAgg28 Try.sizeOf28 hu1x rfl hxp rfl (by decide)) ?_ | refine al_opd rfl rfl rfl (ao_loadsV (A := #[.int _ _, .int _ _, .int _ _, .int _ _, .int _ _, .int _ _, .int _ _, .int _ _, .int _ _, .int _ _, .int _ _, .int _ _]) Try.isAgg28 Try.sizeOf28 hu1x rfl hxc rfl (by decide)) ?_
        first | refine al_opd rfl rfl rfl (ao_loada Try.isAgg31 Try.sizeOf31 rfl (by exact HLp) (by rfl) (by first | rfl | exact four_get _ _ (by omega) | (simp; (first | done | fail)))) ?_ | refine al_opd rfl rfl rfl (ao_loadsV (A := #[.int _ _, .int _ _]) Try.isAgg31 Try.sizeOf31 hu2x rfl hx0 rfl (by decide)) ?_ | refine al_opd rfl rfl rfl (ao_loadsV (A := #[.int _ _, .int _ _]) Try.isAgg31 Try.sizeOf31 hu2x rfl hxl rfl (by decide)) ?_ | refine al_opd rfl rfl rfl (ao_loadsV (A := #[.int _ _, .int _ _]) Try.isAgg31 Try.sizeOf31 hu2x rfl hxp rfl (by decide)) ?_ | refine al_opd rfl rfl rfl (ao_loadsV (A := #[.int _ _, .int _ _]) Try.isAgg31 Try.sizeOf31 hu2x rfl hxc rfl (by decide)) ?_ | refine al_opd rfl rfl rfl (ao_loadsV (A := #[.int _ _, .int _ _]) Try.isAgg31 Try.sizeOf31 hu1x rfl hx0 rfl (by decide)) ?_ | refine al_opd rfl rfl rfl (ao_loadsV (A := #[.int _ _, .int _ _]) Try.isAgg31 Try.sizeOf31 hu1x rfl hxl rfl (by decide)) ?_ | refine al_opd rfl rfl rfl (ao_loadsV (A := #[.int _ _, .int _ _]) Try.isAgg31 Try.sizeOf31 hu1x rfl hxp rfl (by decide)) ?_ | refine al_opd rfl rfl rfl (ao_loadsV (A := #[.int _ _, .int _ _]) Try.isAgg31 Try.sizeOf31 hu1x rfl hxc rfl (by decide)) ?_
        refine al_opd rfl rfl rfl (ao_calld (specFar1_c (r := r) (s := a) hw (wf_of_free hfa) (stood_free hr hfa rfl)) Try.call17 rfl rfl) ?_
        refine al_opd rfl rfl rfl (ao_mv (v := .tuple _) rfl) ?_
        first | refine al_opd rfl rfl rfl (ao_extract (v := cv) rfl rfl) ?_ | refine al_opd rfl rfl rfl (ao_extract (v := du) rfl rfl) ?_ | refine al_opd rfl rfl rfl (ao_extract (v := u1) rfl rfl) ?_ | refine al_opd rfl rfl rfl (ao_extract (v := u2) rfl rfl) ?_ | refine al_opd rfl rfl rfl (ao_extract (v := .agg _) rfl rfl) ?_
        refine al_opd rfl rfl rfl (ao_extract (v := .int _ _) rfl rfl) ?_
        refine al_opd rfl rfl rfl (ao_extract (v := .int _ _) rfl rfl) ?_
        refine al_opd rfl rfl rfl (ao_alloca (zv31) (by rfl)) ?_
        first | refine al_opd rfl rfl rfl ((ao_storeL Try.sizeOf31 (by rfl) (by rfl) (by exact HLp) (by first | rfl | exact four_get _ _ (by omega) | (simp; (first | done | fail))) (by first | rfl | exact four_get _ _ (by omega) | (simp; (first | done | fail))) (by first | rfl | exact four_get _ _ (by omega) | (simp; (first | done | fail)))).to (SetR.eq (by exact SRp))) ?_ | refine al_opd rfl rfl rfl ((ao_storeP (ds := [.int _ _, .int _ _]) Try.sizeOf31 (by rfl) (by rfl) (by exact HLp) (by first | rfl | exact four_get _ _ (by omega) | (simp; (first | done | fail))) (by first | rfl | exact four_get _ _ (by omega) | (simp; (first | done | fail))) (by exact LTp)).to (SetR.eq (by exact SRp))) ?_
        refine al_opd rfl rfl rfl (ao_as (v := .int _ _) rfl) ?_
        refine al_opd rfl rfl rfl (ao_as (v := .int _ _) rfl) ?_
        have hpt2 : Sl ((G.push (.cells (spot (farB r a)) 1)).push (.cells (spot (farB r a)) 1)) spot 2 (.slice (some ⟨pt, 0, none⟩) (nearL r a 100).length ((nearL r a 100).length + 1)) (nearL r a 100) := Sl.full spot_len (by exact HLp) rfl rfl rfl
        refine al_nilT ?_
        refine aw_seq ?_
        refine aw_seq ?_
        refine aw_region ?_
        refine al_opd rfl rfl rfl (ao_mv (v := .int _ _) rfl) ?_
        refine al_opd rfl rfl rfl (ao_mv (v := .int _ _) rfl) ?_
        refine al_opd rfl rfl rfl (ao_neq rfl rfl) ?_
        refine al_opd rfl rfl rfl (ao_mv (v := .bool _) rfl) ?_
        refine al_cases (d := 218) rfl (fun h20_ => ?_) (fun h20_ => ?_)
        · try simp only [nrm] at h20_
          first | done | omega | (exfalso; revert h20_; simp; (first | done | omega))
        try simp only [nrm] at h20_
        refine al_gyes rfl rfl rfl rfl rfl (ao_mv (v := .int _ _) rfl) ?_
        refine al_gyes rfl rfl rfl rfl rfl (ao_neq rfl rfl) ?_
        refine al_opd rfl rfl rfl (ao_pickF rfl (v := .bool _) rfl) ?_
        refine al_opd rfl rfl rfl (ao_mv (v := .bool _) rfl) ?_
        refine al_cases (d := 222) rfl (fun h21_ => ?_) (fun h21_ => ?_)
        · try simp only [nrm] at h21_
          first | done | omega | (exfalso; revert h21_; simp; (first | done | omega))
        try simp only [nrm] at h21_
        first | refine al_gyes rfl rfl rfl rfl rfl (ao_loada Try.isAgg31 Try.sizeOf31 rfl (by exact HLp) (by rfl) (by first | rfl | exact four_get _ _ (by omega) | (simp; (first | done | fail)))) ?_ | refine al_gyes rfl rfl rfl rfl rfl (ao_loadsV (A := #[.int _ _, .int _ _]) Try.isAgg31 Try.sizeOf31 hu2x rfl hx0 rfl (by decide)) ?_ | refine al_gyes rfl rfl rfl rfl rfl (ao_loadsV (A := #[.int _ _, .int _ _]) Try.isAgg31 Try.sizeOf31 hu2x rfl hxl rfl (by decide)) ?_ | refine al_gyes rfl rfl rfl rfl rfl (ao_loadsV (A := #[.int _ _, .int _ _]) Try.isAgg31 Try.sizeOf31 hu2x rfl hxp rfl (by decide)) ?_ | refine al_gyes rfl rfl rfl rfl rfl (ao_loadsV (A := #[.int _ _, .int _ _]) Try.isAgg31 Try.sizeOf31 hu2x rfl hxc rfl (by decide)) ?_ | refine al_gyes rfl rfl rfl rfl rfl (ao_loadsV (A := #[.int _ _, .int _ _]) Try.isAgg31 Try.sizeOf31 hu1x rfl hx0 rfl (by decide)) ?_ | refine al_gyes rfl rfl rfl rfl rfl (ao_loadsV (A := #[.int _ _, .int _ _]) Try.isAgg31 Try.sizeOf31 hu1x rfl hxl rfl (by decide)) ?_ | refine al_gyes rfl rfl rfl rfl rfl (ao_loadsV (A := #[.int _ _, .int _ _]) Try.isAgg31 Try.sizeOf31 hu1x rfl hxp rfl (by decide)) ?_ | refine al_gyes rfl rfl rfl rfl rfl (ao_loadsV (A := #[.int _ _, .int _ _]) Try.isAgg31 Try.sizeOf31 hu1x rfl hxc rfl (by decide)) ?_
        first | refine al_gyes rfl rfl rfl rfl rfl (ao_loada Try.isAgg31 Try.sizeOf31 rfl (by exact HLp) (by rfl) (by first | rfl | exact four_get _ _ (by omega) | (simp; (first | done | fail)))) ?_ | refine al_gyes rfl rfl rfl rfl rfl (ao_loadsV (A := #[.int _ _, .int _ _]) Try.isAgg31 Try.sizeOf31 hu2x rfl hx0 rfl (by decide)) ?_ | refine al_gyes rfl rfl rfl rfl rfl (ao_loadsV (A := #[.int _ _, .int _ _]) Try.isAgg31 Try.sizeOf31 hu2x rfl hxl rfl (by decide)) ?_ | refine al_gyes rfl rfl rfl rfl rfl (ao_loadsV (A := #[.int _ _, .int _ _]) Try.isAgg31 Try.sizeOf31 hu2x rfl hxp rfl (by decide)) ?_ | refine al_gyes rfl rfl rfl rfl rfl (ao_loadsV (A := #[.int _ _, .int _ _]) Try.isAgg31 Try.sizeOf31 hu2x rfl hxc rfl (by decide)) ?_ | refine al_gyes rfl rfl rfl rfl rfl (ao_loadsV (A := #[.int _ _, .int _ _]) Try.isAgg31 Try.sizeOf31 hu1x rfl hx0 rfl (by decide)) ?_ | refine al_gyes rfl rfl rfl rfl rfl (ao_loadsV (A := #[.int _ _, .int _ _]) Try.isAgg31 Try.sizeOf31 hu1x rfl hxl rfl (by decide)) ?_ | refine al_gyes rfl rfl rfl rfl rfl (ao_loadsV (A := #[.int _ _, .int _ _]) Try.isAgg31 Try.sizeOf31 hu1x rfl hxp rfl (by decide)) ?_ | refine al_gyes rfl rfl rfl rfl rfl (ao_loadsV (A := #[.int _ _, .int _ _]) Try.isAgg31 Try.sizeOf31 hu1x rfl hxc rfl (by decide)) ?_
        refine al_gyes rfl rfl rfl rfl rfl (ao_neV Try.eqGuardType31 rfl rfl rfl rfl (eqS31 _ _ _ _)) ?_
        refine al_opd rfl rfl rfl (ao_pickF rfl (v := .bool _) rfl) ?_
        refine al_opd rfl rfl rfl (ao_mv (v := .bool _) rfl) ?_
        refine al_cases (d := 227) rfl (fun h22_ => ?_) (fun h22_ => ?_)
        · try simp only [nrm] at h22_
          first | done | omega | (exfalso; revert h22_; simp; (first | done | omega))
        try simp only [nrm] at h22_
        refine al_gyes rfl rfl rfl rfl rfl (ao_mv (v := .int _ _) rfl) ?_
        refine al_gyes rfl rfl rfl rfl rfl (ao_mv (v := .int _ _) rfl) ?_
        refine al_gyes rfl rfl rfl rfl rfl (ao_neq rfl rfl) ?_
        refine al_opd rfl rfl rfl (ao_pickF rfl (v := .bool _) rfl) ?_
        refine al_opd rfl rfl rfl (ao_mv (v := .bool _) rfl) ?_
        refine al_cases (d := 232) rfl (fun h23_ => ?_) (fun h23_ => ?_)
        · try simp only [nrm] at h23_
          first | done | omega | (exfalso; revert h23_; simp; (first | done | omega))
        try simp only [nrm] at h23_
        first | refine al_gyes rfl rfl rfl rfl rfl (ao_mv (v := .slice _ _ _) rfl) ?_ | refine al_gyes rfl rfl rfl rfl rfl (ao_mv (v := cv) rfl) ?_ | refine al_gyes rfl rfl rfl rfl rfl (ao_mv (v := du) rfl) ?_ | refine al_gyes rfl rfl rfl rfl rfl (ao_mv (v := u1) rfl) ?_ | refine al_gyes rfl rfl rfl rfl rfl (ao_mv (v := u2) rfl) ?_
        first | refine al_gyes rfl rfl rfl rfl rfl (ao_loada Try.isAgg31 Try.sizeOf31 rfl (by exact HLp) (by rfl) (by first | rfl | exact four_get _ _ (by omega) | (simp; (first | done | fail)))) ?_ | refine al_gyes rfl rfl rfl rfl rfl (ao_loadsV (A := #[.int _ _, .int _ _]) Try.isAgg31 Try.sizeOf31 hu2x rfl hx0 rfl (by decide)) ?_ | refine al_gyes rfl rfl rfl rfl rfl (ao_loadsV (A := #[.int _ _, .int _ _]) Try.isAgg31 Try.sizeOf31 hu2x rfl hxl rfl (by decide)) ?_ | refine al_gyes rfl rfl rfl rfl rfl (ao_loadsV (A := #[.int _ _, .int _ _]) Try.isAgg31 Try.sizeOf31 hu2x rfl hxp rfl (by decide)) ?_ | refine al_gyes rfl rfl rfl rfl rfl (ao_loadsV (A := #[.int _ _, .int _ _]) Try.isAgg31 Try.sizeOf31 hu2x rfl hxc rfl (by decide)) ?_ | refine al_gyes rfl rfl rfl rfl rfl (ao_loadsV (A := #[.int _ _, .int _ _]) Try.isAgg31 Try.sizeOf31 hu1x rfl hx0 rfl (by decide)) ?_ | refine al_gyes rfl rfl rfl rfl rfl (ao_loadsV (A := #[.int _ _, .int _ _]) Try.isAgg31 Try.sizeOf31 hu1x rfl hxl rfl (by decide)) ?_ | refine al_gyes rfl rfl rfl rfl rfl (ao_loadsV (A := #[.int _ _, .int _ _]) Try.isAgg31 Try.sizeOf31 hu1x rfl hxp rfl (by decide)) ?_ | refine al_gyes rfl rfl rfl rfl rfl (ao_loadsV (A := #[.int _ _, .int _ _]) Try.isAgg31 Try.sizeOf31 hu1x rfl hxc rfl (by decide)) ?_
        refine al_gyes rfl rfl rfl rfl rfl (ao_calld (ACd.val (a2has_c (l := (nearL r a 100)) (x := farB r a) hpt2 (by omega)) (congrArg Value.bool (decide_eq_true (farB_in hfa)))) Try.call13 rfl rfl) ?_
        refine al_gyes rfl rfl rfl rfl rfl (ao_not rfl) ?_
        refine al_opd rfl rfl rfl (ao_pickF rfl (v := .bool _) rfl) ?_
        refine al_nilT ?_
        refine aw_cond rfl (fun h24_ => ?_) (fun h24_ => ?_)
        · try simp only [nrm] at h24_
          first | done | omega | (exfalso; revert h24_; simp; (first | done | omega))
        try simp only [nrm] at h24_
        refine aw_skipT ?_
        refine aw_seq ?_
        refine aw_region ?_
        refine al_opd rfl rfl rfl (ao_as (v := .int _ _) rfl) ?_
        refine al_nilT ?_
        refine aw_seq ?_
        refine aw_seq ?_
        refine aw_region ?_
        refine al_opd rfl rfl rfl (ao_as (v := .int _ _) rfl) ?_
        refine al_nilT ?_
        refine aw_block ?_
        refine aw_loop (fun (gk : Nat) (fr : AFr) (G : AHeap) => ∃ get : Nat → Value, fr = ⟨343, get⟩ ∧ (∃ n : Nat, (n : Int) ≤ farD r a + 1 ∧ gk = (farD r a + 1).toNat - n ∧ Same H.next H G ∧ G.blk b5 = some (.cells (roomC r) 1) ∧ G.blk b6 = some (.cells (spot a) 1) ∧ G.blk pt = some (.cells (fl spot (nearL r a 100)) 2) ∧ H.next ≤ G.next ∧ b5 < G.next ∧ b6 < G.next ∧ get 5 = .pointer (some ⟨b5, 0, none⟩) ∧ get 6 = .pointer (some ⟨b6, 0, none⟩) ∧ get 18 = .slice (some ⟨pt, 0, none⟩) (nearL r a 100).length ((nearL r a 100).length + 1) ∧ get 25 = .int .i64 (farD r a) ∧ get 27 = .int .i64 (cntW r a n : Nat) ∧ get 28 = .int .i64 n)) ((farD r a + 1).toNat) ⟨_, rfl, ?_⟩ ?_
        · refine ⟨0, by omega, rfl, by exact SMp, by exact HLp, by exact HLp, by exact HLp, by exact LEp, ?_, ?_, rfl, rfl, rfl, rfl, rfl, rfl⟩ <;> exact LNp
        · rintro gk fr G ⟨get, rfl, n, hn, rfl, hG, hp5, hp6, hpk, hge, hl5, hl6, g5, g6, g18, g25, g27, g28⟩
          refine aw_slot (d := 5) (v := .pointer (some ⟨b5, 0, none⟩)) (by first | assumption | rfl) ?_
          refine aw_slot (d := 6) (v := .pointer (some ⟨b6, 0, none⟩)) (by first | assumption | rfl) ?_
          refine aw_slot (d := 18) (v := .slice (some ⟨pt, 0, none⟩) (nearL r a 100).length ((nearL r a 100).length + 1)) (by first | assumption | rfl) ?_
          refine aw_slot (d := 25) (v := .int .i64 (farD r a)) (by first | assumption | rfl) ?_
          refine aw_slot (d := 27) (v := .int .i64 (cntW r a n : Nat)) (by first | assumption | rfl) ?_
          refine aw_slot (d := 28) (v := .int .i64 n) (by first | assumption | rfl) ?_
          refine aw_seq ?_
          refine aw_seq ?_
          refine aw_region ?_
          refine al_opd rfl rfl rfl (ao_mv (v := .int _ _) rfl) ?_
          refine al_opd rfl rfl rfl (ao_mv (v := .int _ _) rfl) ?_
          refine al_opd rfl rfl rfl (ao_leq rfl rfl) ?_
          refine al_nilT ?_
          refine aw_cond rfl (fun h25_ => ?_) (fun h25_ => ?_)
          · try simp only [nrm] at h25_
            have hnd : (n : Int) ≤ farD r a := h25_
            have hnf : (decide (0 ≤ ((n : Nat) : Int)) && decide (((n : Nat) : Int) ≤ 100)) = true := by rw [decide_eq_true (by omega), decide_eq_true (by omega)]; rfl
            have hnu := near_up hfa hnd
            have hnl2 := nearL_le ((n : Nat) : Int) hfa
            refine aw_skipT ?_
            refine aw_seq ?_
            refine aw_block ?_
            refine aw_seq ?_
            refine aw_region ?_
            first | refine al_opd rfl rfl rfl (ao_loada Try.isAgg28 Try.sizeOf28 rfl (by exact HLp) (by rfl) (by first | rfl | exact four_get _ _ (by omega) | (simp; (first | done | fail)))) ?_ | refine al_opd rfl rfl rfl (ao_loadsV (A := #[.int _ _, .int _ _, .int _ _, .int _ _, .int _ _, .int _ _, .int _ _, .int _ _, .int _ _, .int _ _, .int _ _, .int _ _]) Try.isAgg28 Try.sizeOf28 hu2x rfl hx0 rfl (by decide)) ?_ | refine al_opd rfl rfl rfl (ao_loadsV (A := #[.int _ _, .int _ _, .int _ _, .int _ _, .int _ _, .int _ _, .int _ _, .int _ _, .int _ _, .int _ _, .int _ _, .int _ _]) Try.isAgg28 Try.sizeOf28 hu2x rfl hxl rfl (by decide)) ?_ | refine al_opd rfl rfl rfl (ao_loadsV (A := #[.int _ _, .int _ _, .int _ _, .int _ _, .int _ _, .int _ _, .int _ _, .int _ _, .int _ _, .int _ _, .int _ _, .int _ _]) Try.isAgg28 Try.sizeOf28 hu2x rfl hxp rfl (by decide)) ?_ | refine al_opd rfl rfl rfl (ao_loadsV (A := #[.int _ _, .int _ _, .int _ _, .int _ _, .int _ _, .int _ _, .int _ _, .int _ _, .int _ _, .int _ _, .int _ _, .int _ _]) Try.isAgg28 Try.sizeOf28 hu2x rfl hxc rfl (by decide)) ?_ | refine al_opd rfl rfl rfl (ao_loadsV (A := #[.int _ _, .int _ _, .int _ _, .int _ _, .int _ _, .int _ _, .int _ _, .int _ _, .int _ _, .int _ _, .int _ _, .int _ _]) Try.isAgg28 Try.sizeOf28 hu1x rfl hx0 rfl (by decide)) ?_ | refine al_opd rfl rfl rfl (ao_loadsV (A := #[.int _ _, .int _ _, .int _ _, .int _ _, .int _ _, .int _ _, .int _ _, .int _ _, .int _ _, .int _ _, .int _ _, .int _ _]) Try.isAgg28 Try.sizeOf28 hu1x rfl hxl rfl (by decide)) ?_ | refine al_opd rfl rfl rfl (ao_loadsV (A := #[.int _ _, .int _ _, .int _ _, .int _ _, .int _ _, .int _ _, .int _ _, .int _ _, .int _ _, .int _ _, .int _ _, .int _ _]) Try.isAgg28 Try.sizeOf28 hu1x rfl hxp rfl (by decide)) ?_ | refine al_opd rfl rfl rfl (ao_loadsV (A := #[.int _ _, .int _ _, .int _ _, .int _ _, .int _ _, .int _ _, .int _ _, .int _ _, .int _ _, .int _ _, .int _ _, .int _ _]) Try.isAgg28 Try.sizeOf28 hu1x rfl hxc rfl (by decide)) ?_
            first | refine al_opd rfl rfl rfl (ao_loada Try.isAgg31 Try.sizeOf31 rfl (by exact HLp) (by rfl) (by first | rfl | exact four_get _ _ (by omega) | (simp; (first | done | fail)))) ?_ | refine al_opd rfl rfl rfl (ao_loadsV (A := #[.int _ _, .int _ _]) Try.isAgg31 Try.sizeOf31 hu2x rfl hx0 rfl (by decide)) ?_ | refine al_opd rfl rfl rfl (ao_loadsV (A := #[.int _ _, .int _ _]) Try.isAgg31 Try.sizeOf31 hu2x rfl hxl rfl (by decide)) ?_ | refine al_opd rfl rfl rfl (ao_loadsV (A := #[.int _ _, .int _ _]) Try.isAgg31 Try.sizeOf31 hu2x rfl hxp rfl (by decide)) ?_ | refine al_opd rfl rfl rfl (ao_loadsV (A := #[.int _ _, .int _ _]) Try.isAgg31 Try.sizeOf31 hu2x rfl hxc rfl (by decide)) ?_ | refine al_opd rfl rfl rfl (ao_loadsV (A := #[.int _ _, .int _ _]) Try.isAgg31 Try.sizeOf31 hu1x rfl hx0 rfl (by decide)) ?_ | refine al_opd rfl rfl rfl (ao_loadsV (A := #[.int _ _, .int _ _]) Try.isAgg31 Try.sizeOf31 hu1x rfl hxl rfl (by decide)) ?_ | refine al_opd rfl rfl rfl (ao_loadsV (A := #[.int _ _, .int _ _]) Try.isAgg31 Try.sizeOf31 hu1x rfl hxp rfl (by decide)) ?_ | refine al_opd rfl rfl rfl (ao_loadsV (A := #[.int _ _, .int _ _]) Try.isAgg31 Try.sizeOf31 hu1x rfl hxc rfl (by decide)) ?_
            refine al_opd rfl rfl rfl (ao_mv (v := .int _ _) rfl) ?_
            refine al_opd rfl rfl rfl (ao_calld (implWithin1_c (r := r) (s := a) (k := (n : Nat)) hw (wf_of_free hfa) (stood_free hr hfa hnf)) Try.call18 rfl rfl) ?_
            refine al_opd rfl rfl rfl (ao_mv (v := .tuple _) rfl) ?_
            first | refine al_opd rfl rfl rfl (ao_extract (v := cv) rfl rfl) ?_ | refine al_opd rfl rfl rfl (ao_extract (v := du) rfl rfl) ?_ | refine al_opd rfl rfl rfl (ao_extract (v := u1) rfl rfl) ?_ | refine al_opd rfl rfl rfl (ao_extract (v := u2) rfl rfl) ?_ | refine al_opd rfl rfl rfl (ao_extract (v := .slice _ _ _) rfl rfl) ?_
            refine al_opd rfl rfl rfl (ao_extract (v := .int _ _) rfl rfl) ?_
            first | refine al_opd rfl rfl rfl (ao_as (v := .slice _ _ _) rfl) ?_ | refine al_opd rfl rfl rfl (ao_as (v := cv) rfl) ?_ | refine al_opd rfl rfl rfl (ao_as (v := du) rfl) ?_ | refine al_opd rfl rfl rfl (ao_as (v := u1) rfl) ?_ | refine al_opd rfl rfl rfl (ao_as (v := u2) rfl) ?_
            refine al_opd rfl rfl rfl (ao_as (v := .int _ _) rfl) ?_
            refine al_nilT ?_
            refine aw_seq ?_
            refine aw_region ?_
            first | refine al_opd rfl rfl rfl (ao_loada Try.isAgg28 Try.sizeOf28 rfl (by exact HLp) (by rfl) (by first | rfl | exact four_get _ _ (by omega) | (simp; (first | done | fail)))) ?_ | refine al_opd rfl rfl rfl (ao_loadsV (A := #[.int _ _, .int _ _, .int _ _, .int _ _, .int _ _, .int _ _, .int _ _, .int _ _, .int _ _, .int _ _, .int _ _, .int _ _]) Try.isAgg28 Try.sizeOf28 hu2x rfl hx0 rfl (by decide)) ?_ | refine al_opd rfl rfl rfl (ao_loadsV (A := #[.int _ _, .int _ _, .int _ _, .int _ _, .int _ _, .int _ _, .int _ _, .int _ _, .int _ _, .int _ _, .int _ _, .int _ _]) Try.isAgg28 Try.sizeOf28 hu2x rfl hxl rfl (by decide)) ?_ | refine al_opd rfl rfl rfl (ao_loadsV (A := #[.int _ _, .int _ _, .int _ _, .int _ _, .int _ _, .int _ _, .int _ _, .int _ _, .int _ _, .int _ _, .int _ _, .int _ _]) Try.isAgg28 Try.sizeOf28 hu2x rfl hxp rfl (by decide)) ?_ | refine al_opd rfl rfl rfl (ao_loadsV (A := #[.int _ _, .int _ _, .int _ _, .int _ _, .int _ _, .int _ _, .int _ _, .int _ _, .int _ _, .int _ _, .int _ _, .int _ _]) Try.isAgg28 Try.sizeOf28 hu2x rfl hxc rfl (by decide)) ?_ | refine al_opd rfl rfl rfl (ao_loadsV (A := #[.int _ _, .int _ _, .int _ _, .int _ _, .int _ _, .int _ _, .int _ _, .int _ _, .int _ _, .int _ _, .int _ _, .int _ _]) Try.isAgg28 Try.sizeOf28 hu1x rfl hx0 rfl (by decide)) ?_ | refine al_opd rfl rfl rfl (ao_loadsV (A := #[.int _ _, .int _ _, .int _ _, .int _ _, .int _ _, .int _ _, .int _ _, .int _ _, .int _ _, .int _ _, .int _ _, .int _ _]) Try.isAgg28 Try.sizeOf28 hu1x rfl hxl rfl (by decide)) ?_ | refine al_opd rfl rfl rfl (ao_loadsV (A := #[.int _ _, .int _ _, .int _ _, .int _ _, .int _ _, .int _ _, .int _ _, .int _ _, .int _ _, .int _ _, .int _ _, .int _ _]) Try.isAgg28 Try.sizeOf28 hu1x rfl hxp rfl (by decide)) ?_ | refine al_opd rfl rfl rfl (ao_loadsV (A := #[.int _ _, .int _ _, .int _ _, .int _ _, .int _ _, .int _ _, .int _ _, .int _ _, .int _ _, .int _ _, .int _ _, .int _ _]) Try.isAgg28 Try.sizeOf28 hu1x rfl hxc rfl (by decide)) ?_
            first | refine al_opd rfl rfl rfl (ao_loada Try.isAgg31 Try.sizeOf31 rfl (by exact HLp) (by rfl) (by first | rfl | exact four_get _ _ (by omega) | (simp; (first | done | fail)))) ?_ | refine al_opd rfl rfl rfl (ao_loadsV (A := #[.int _ _, .int _ _]) Try.isAgg31 Try.sizeOf31 hu2x rfl hx0 rfl (by decide)) ?_ | refine al_opd rfl rfl rfl (ao_loadsV (A := #[.int _ _, .int _ _]) Try.isAgg31 Try.sizeOf31 hu2x rfl hxl rfl (by decide)) ?_ | refine al_opd rfl rfl rfl (ao_loadsV (A := #[.int _ _, .int _ _]) Try.isAgg31 Try.sizeOf31 hu2x rfl hxp rfl (by decide)) ?_ | refine al_opd rfl rfl rfl (ao_loadsV (A := #[.int _ _, .int _ _]) Try.isAgg31 Try.sizeOf31 hu2x rfl hxc rfl (by decide)) ?_ | refine al_opd rfl rfl rfl (ao_loadsV (A := #[.int _ _, .int _ _]) Try.isAgg31 Try.sizeOf31 hu1x rfl hx0 rfl (by decide)) ?_ | refine al_opd rfl rfl rfl (ao_loadsV (A := #[.int _ _, .int _ _]) Try.isAgg31 Try.sizeOf31 hu1x rfl hxl rfl (by decide)) ?_ | refine al_opd rfl rfl rfl (ao_loadsV (A := #[.int _ _, .int _ _]) Try.isAgg31 Try.sizeOf31 hu1x rfl hxp rfl (by decide)) ?_ | refine al_opd rfl rfl rfl (ao_loadsV (A := #[.int _ _, .int _ _]) Try.isAgg31 Try.sizeOf31 hu1x rfl hxc rfl (by decide)) ?_
            refine al_opd rfl rfl rfl (ao_mv (v := .int _ _) rfl) ?_
            refine al_opd rfl rfl rfl (ao_calld (specWithin1_c (r := r) (s := a) (k := (n : Nat)) hw (wf_of_free hfa) (stood_free hr hfa hnf)) Try.call19 rfl rfl) ?_
            refine al_opd rfl rfl rfl (ao_mv (v := .tuple _) rfl) ?_
            first | refine al_opd rfl rfl rfl (ao_extract (v := cv) rfl rfl) ?_ | refine al_opd rfl rfl rfl (ao_extract (v := du) rfl rfl) ?_ | refine al_opd rfl rfl rfl (ao_extract (v := u1) rfl rfl) ?_ | refine al_opd rfl rfl rfl (ao_extract (v := u2) rfl rfl) ?_ | refine al_opd rfl rfl rfl (ao_extract (v := .slice _ _ _) rfl rfl) ?_
            refine al_opd rfl rfl rfl (ao_extract (v := .int _ _) rfl rfl) ?_
            first | refine al_opd rfl rfl rfl (ao_as (v := .slice _ _ _) rfl) ?_ | refine al_opd rfl rfl rfl (ao_as (v := cv) rfl) ?_ | refine al_opd rfl rfl rfl (ao_as (v := du) rfl) ?_ | refine al_opd rfl rfl rfl (ao_as (v := u1) rfl) ?_ | refine al_opd rfl rfl rfl (ao_as (v := u2) rfl) ?_
            refine al_opd rfl rfl rfl (ao_as (v := .int _ _) rfl) ?_
            have hn1x : Sl ((G.push (.cells (fl spot (nearL r a (n : Nat))) 2)).push (.cells (fl spot (nearL r a (n : Nat))) 2)) spot 2 (.slice (some ⟨G.next, 0, none⟩) (nearL r a (n : Nat)).length ((nearL r a (n : Nat)).length + 1)) (nearL r a (n : Nat)) := Sl.full spot_len (by exact HLp) rfl rfl rfl
            have hn2x : Sl ((G.push (.cells (fl spot (nearL r a (n : Nat))) 2)).push (.cells (fl spot (nearL r a (n : Nat))) 2)) spot 2 (.slice (some ⟨G.next + 1, 0, none⟩) (nearL r a (n : Nat)).length ((nearL r a (n : Nat)).length + 1)) (nearL r a (n : Nat)) := Sl.full spot_len (by exact HLp) rfl rfl rfl
            refine al_nilT ?_
            refine aw_seq ?_
            refine aw_seq ?_
            refine aw_region ?_
            refine al_opd rfl rfl rfl (ao_mv (v := .int _ _) rfl) ?_
            refine al_opd rfl rfl rfl (ao_mv (v := .int _ _) rfl) ?_
            refine al_opd rfl rfl rfl (ao_neq rfl rfl) ?_
            refine al_opd rfl rfl rfl (ao_mv (v := .bool _) rfl) ?_
            refine al_cases (d := 260) rfl (fun h26_ => ?_) (fun h26_ => ?_)
            · try simp only [nrm] at h26_
              first | done | omega | (exfalso; revert h26_; simp; (first | done | omega))
            try simp only [nrm] at h26_
            refine al_gyes rfl rfl rfl rfl rfl (ao_mv (v := .int _ _) rfl) ?_
            refine al_gyes rfl rfl rfl rfl rfl (ao_neq rfl rfl) ?_
            refine al_opd rfl rfl rfl (ao_pickF rfl (v := .bool _) rfl) ?_
            refine al_opd rfl rfl rfl (ao_mv (v := .bool _) rfl) ?_
            refine al_cases (d := 264) rfl (fun h27_ => ?_) (fun h27_ => ?_)
            · try simp only [nrm] at h27_
              first | done | omega | (exfalso; revert h27_; simp; (first | done | omega))
            try simp only [nrm] at h27_
            first | refine al_gyes rfl rfl rfl rfl rfl (ao_mv (v := .slice _ _ _) rfl) ?_ | refine al_gyes rfl rfl rfl rfl rfl (ao_mv (v := cv) rfl) ?_ | refine al_gyes rfl rfl rfl rfl rfl (ao_mv (v := du) rfl) ?_ | refine al_gyes rfl rfl rfl rfl rfl (ao_mv (v := u1) rfl) ?_ | refine al_gyes rfl rfl rfl rfl rfl (ao_mv (v := u2) rfl) ?_
            first | refine al_gyes rfl rfl rfl rfl rfl (ao_mv (v := .slice _ _ _) rfl) ?_ | refine al_gyes rfl rfl rfl rfl rfl (ao_mv (v := cv) rfl) ?_ | refine al_gyes rfl rfl rfl rfl rfl (ao_mv (v := du) rfl) ?_ | refine al_gyes rfl rfl rfl rfl rfl (ao_mv (v := u1) rfl) ?_ | refine al_gyes rfl rfl rfl rfl rfl (ao_mv (v := u2) rfl) ?_
            refine al_gyes rfl rfl rfl rfl rfl (ao_calld (ACd.val (specSameSpots_c (l := nearL r a (n : Nat)) (m := nearL r a (n : Nat)) hn1x hn2x (by omega)) (congrArg Value.bool (decide_eq_true rfl))) Try.call12 rfl rfl) ?_
            refine al_gyes rfl rfl rfl rfl rfl (ao_not rfl) ?_
            refine al_opd rfl rfl rfl (ao_pickF rfl (v := .bool _) rfl) ?_
            refine al_opd rfl rfl rfl (ao_mv (v := .bool _) rfl) ?_
            refine al_cases (d := 270) rfl (fun h28_ => ?_) (fun h28_ => ?_)
            · try simp only [nrm] at h28_
              first | done | omega | (exfalso; revert h28_; simp; (first | done | omega))
            try simp only [nrm] at h28_
            first | refine al_gyes rfl rfl rfl rfl rfl (ao_mv (v := .slice _ _ _) rfl) ?_ | refine al_gyes rfl rfl rfl rfl rfl (ao_mv (v := cv) rfl) ?_ | refine al_gyes rfl rfl rfl rfl rfl (ao_mv (v := du) rfl) ?_ | refine al_gyes rfl rfl rfl rfl rfl (ao_mv (v := u1) rfl) ?_ | refine al_gyes rfl rfl rfl rfl rfl (ao_mv (v := u2) rfl) ?_
            first | refine al_gyes rfl rfl rfl rfl rfl (ao_lenS Try.underlying35 (by rfl)) ?_ | refine al_gyes rfl rfl rfl rfl rfl (ao_lenN Try.underlying35 (by rfl)) ?_ | refine al_gyes rfl rfl rfl rfl rfl (ao_lenV Try.underlying35 rfl hu2x) ?_ | refine al_gyes rfl rfl rfl rfl rfl (ao_lenV Try.underlying35 rfl hu1x) ?_
            refine al_gyes rfl rfl rfl rfl rfl (ao_mv (v := .int _ _) rfl) ?_
            refine al_gyes rfl rfl rfl rfl rfl (ao_leq rfl rfl) ?_
            refine al_opd rfl rfl rfl (ao_pickF rfl (v := .bool _) rfl) ?_
            refine al_opd rfl rfl rfl (ao_mv (v := .bool _) rfl) ?_
            refine al_cases (d := 276) rfl (fun h29_ => ?_) (fun h29_ => ?_)
            · try simp only [nrm] at h29_
              first | done | omega | (exfalso; revert h29_; simp; (first | done | omega))
            try simp only [nrm] at h29_
            first | refine al_gyes rfl rfl rfl rfl rfl (ao_mv (v := .slice _ _ _) rfl) ?_ | refine al_gyes rfl rfl rfl rfl rfl (ao_mv (v := cv) rfl) ?_ | refine al_gyes rfl rfl rfl rfl rfl (ao_mv (v := du) rfl) ?_ | refine al_gyes rfl rfl rfl rfl rfl (ao_mv (v := u1) rfl) ?_ | refine al_gyes rfl rfl rfl rfl rfl (ao_mv (v := u2) rfl) ?_
            first | refine al_gyes rfl rfl rfl rfl rfl (ao_lenS Try.underlying35 (by rfl)) ?_ | refine al_gyes rfl rfl rfl rfl rfl (ao_lenN Try.underlying35 (by rfl)) ?_ | refine al_gyes rfl rfl rfl rfl rfl (ao_lenV Try.underlying35 rfl hu2x) ?_ | refine al_gyes rfl rfl rfl rfl rfl (ao_lenV Try.underlying35 rfl hu1x) ?_
            first | refine al_gyes rfl rfl rfl rfl rfl (ao_mv (v := .slice _ _ _) rfl) ?_ | refine al_gyes rfl rfl rfl rfl rfl (ao_mv (v := cv) rfl) ?_ | refine al_gyes rfl rfl rfl rfl rfl (ao_mv (v := du) rfl) ?_ | refine al_gyes rfl rfl rfl rfl rfl (ao_mv (v := u1) rfl) ?_ | refine al_gyes rfl rfl rfl rfl rfl (ao_mv (v := u2) rfl) ?_
            first | refine al_gyes rfl rfl rfl rfl rfl (ao_lenS Try.underlying35 (by rfl)) ?_ | refine al_gyes rfl rfl rfl rfl rfl (ao_lenN Try.underlying35 (by rfl)) ?_ | refine al_gyes rfl rfl rfl rfl rfl (ao_lenV Try.underlying35 rfl hu2x) ?_ | refine al_gyes rfl rfl rfl rfl rfl (ao_lenV Try.underlying35 rfl hu1x) ?_
            refine al_gyes rfl rfl rfl rfl rfl (ao_eql rfl rfl) ?_
            refine al_gyes rfl rfl rfl rfl rfl (ao_mv (v := .int _ _) rfl) ?_
            refine al_gyes rfl rfl rfl rfl rfl (ao_mv (v := .int _ _) rfl) ?_
            refine al_gyes rfl rfl rfl rfl rfl (ao_eql rfl rfl) ?_
            refine al_gyes rfl rfl rfl rfl rfl (ao_neB Try.underlying4 rfl rfl) ?_
            refine al_opd rfl rfl rfl (ao_pickF rfl (v := .bool _) rfl) ?_
            refine al_nilT ?_
            refine aw_cond rfl (fun h30_ => ?_) (fun h30_ => ?_)
            · try simp only [nrm] at h30_
              exact absurd (near_eqb hfa hnd) h30_
            try simp only [nrm] at h30_
            refine aw_skipT ?_
            refine aw_region ?_
            first | refine al_opd rfl rfl rfl (ao_mv (v := .slice _ _ _) rfl) ?_ | refine al_opd rfl rfl rfl (ao_mv (v := cv) rfl) ?_ | refine al_opd rfl rfl rfl (ao_mv (v := du) rfl) ?_ | refine al_opd rfl rfl rfl (ao_mv (v := u1) rfl) ?_ | refine al_opd rfl rfl rfl (ao_mv (v := u2) rfl) ?_
            first | refine al_opd rfl rfl rfl (ao_lenS Try.underlying35 (by rfl)) ?_ | refine al_opd rfl rfl rfl (ao_lenN Try.underlying35 (by rfl)) ?_ | refine al_opd rfl rfl rfl (ao_lenV Try.underlying35 rfl hu2x) ?_ | refine al_opd rfl rfl rfl (ao_lenV Try.underlying35 rfl hu1x) ?_
            refine al_opd rfl rfl rfl (ao_as (v := .int _ _) rfl) ?_
            refine al_nilB ?_
            refine thenA_n ?_
            refine aw_region ?_
            refine al_opd rfl rfl rfl (ao_mv (v := .int _ _) rfl) ?_
            first | refine al_opd rfl rfl rfl ((ao_add rfl rfl).val (nw_i64 BDp BDp)) ?_ | refine al_opd rfl rfl rfl (ao_add rfl rfl) ?_
            refine al_opd rfl rfl rfl (ao_as (v := .int _ _) rfl) ?_
            refine al_nilT ?_
            refine ⟨_, ?_, _, rfl, n + 1, by omega, rfl, by exact SMp, by exact HLp, by exact HLp, by exact HLp, by exact LEp, ?_, ?_, rfl, rfl, rfl, rfl, rfl, by rfl⟩
            · omega
            · exact LNp
            · exact LNp
          · try simp only [nrm] at h25_
            refine aw_exit ?_
            refine thenA_x ?_
            refine thenA_x ?_
            refine blockA_hit ?_
            refine thenA_n ?_
            refine aw_seq ?_
            refine aw_region ?_
            first | refine al_opd rfl rfl rfl (ao_loada Try.isAgg28 Try.sizeOf28 rfl (by exact HLp) (by rfl) (by first | rfl | exact four_get _ _ (by omega) | (simp; (first | done | fail)))) ?_ | refine al_opd rfl rfl rfl (ao_loadsV (A := #[.int _ _, .int _ _, .int _ _, .int _ _, .int _ _, .int _ _, .int _ _, .int _ _, .int _ _, .int _ _, .int _ _, .int _ _]) Try.isAgg28 Try.sizeOf28 hu2x rfl hx0 rfl (by decide)) ?_ | refine al_opd rfl rfl rfl (ao_loadsV (A := #[.int _ _, .int _ _, .int _ _, .int _ _, .int _ _, .int _ _, .int _ _, .int _ _, .int _ _, .int _ _, .int _ _, .int _ _]) Try.isAgg28 Try.sizeOf28 hu2x rfl hxl rfl (by decide)) ?_ | refine al_opd rfl rfl rfl (ao_loadsV (A := #[.int _ _, .int _ _, .int _ _, .int _ _, .int _ _, .int _ _, .int _ _, .int _ _, .int _ _, .int _ _, .int _ _, .int _ _]) Try.isAgg28 Try.sizeOf28 hu2x rfl hxp rfl (by decide)) ?_ | refine al_opd rfl rfl rfl (ao_loadsV (A := #[.int _ _, .int _ _, .int _ _, .int _ _, .int _ _, .int _ _, .int _ _, .int _ _, .int _ _, .int _ _, .int _ _, .int _ _]) Try.isAgg28 Try.sizeOf28 hu2x rfl hxc rfl (by decide)) ?_ | refine al_opd rfl rfl rfl (ao_loadsV (A := #[.int _ _, .int _ _, .int _ _, .int _ _, .int _ _, .int _ _, .int _ _, .int _ _, .int _ _, .int _ _, .int _ _, .int _ _]) Try.isAgg28 Try.sizeOf28 hu1x rfl hx0 rfl (by decide)) ?_ | refine al_opd rfl rfl rfl (ao_loadsV (A := #[.int _ _, .int _ _, .int _ _, .int _ _, .int _ _, .int _ _, .int _ _, .int _ _, .int _ _, .int _ _, .int _ _, .int _ _]) Try.isAgg28 Try.sizeOf28 hu1x rfl hxl rfl (by decide)) ?_ | refine al_opd rfl rfl rfl (ao_loadsV (A := #[.int _ _, .int _ _, .int _ _, .int _ _, .int _ _, .int _ _, .int _ _, .int _ _, .int _ _, .int _ _, .int _ _, .int _ _]) Try.isAgg28 Try.sizeOf28 hu1x rfl hxp rfl (by decide)) ?_ | refine al_opd rfl rfl rfl (ao_loadsV (A := #[.int _ _, .int _ _, .int _ _, .int _ _, .int _ _, .int _ _, .int _ _, .int _ _, .int _ _, .int _ _, .int _ _, .int _ _]) Try.isAgg28 Try.sizeOf28 hu1x rfl hxc rfl (by decide)) ?_
            first | refine al_opd rfl rfl rfl (ao_loada Try.isAgg31 Try.sizeOf31 rfl (by exact HLp) (by rfl) (by first | rfl | exact four_get _ _ (by omega) | (simp; (first | done | fail)))) ?_ | refine al_opd rfl rfl rfl (ao_loadsV (A := #[.int _ _, .int _ _]) Try.isAgg31 Try.sizeOf31 hu2x rfl hx0 rfl (by decide)) ?_ | refine al_opd rfl rfl rfl (ao_loadsV (A := #[.int _ _, .int _ _]) Try.isAgg31 Try.sizeOf31 hu2x rfl hxl rfl (by decide)) ?_ | refine al_opd rfl rfl rfl (ao_loadsV (A := #[.int _ _, .int _ _]) Try.isAgg31 Try.sizeOf31 hu2x rfl hxp rfl (by decide)) ?_ | refine al_opd rfl rfl rfl (ao_loadsV (A := #[.int _ _, .int _ _]) Try.isAgg31 Try.sizeOf31 hu2x rfl hxc rfl (by decide)) ?_ | refine al_opd rfl rfl rfl (ao_loadsV (A := #[.int _ _, .int _ _]) Try.isAgg31 Try.sizeOf31 hu1x rfl hx0 rfl (by decide)) ?_ | refine al_opd rfl rfl rfl (ao_loadsV (A := #[.int _ _, .int _ _]) Try.isAgg31 Try.sizeOf31 hu1x rfl hxl rfl (by decide)) ?_ | refine al_opd rfl rfl rfl (ao_loadsV (A := #[.int _ _, .int _ _]) Try.isAgg31 Try.sizeOf31 hu1x rfl hxp rfl (by decide)) ?_ | refine al_opd rfl rfl rfl (ao_loadsV (A := #[.int _ _, .int _ _]) Try.isAgg31 Try.sizeOf31 hu1x rfl hxc rfl (by decide)) ?_
            refine al_opd rfl rfl rfl (ao_calld (implRays1_c (r := r) (s := a) (g := g) hw (wf_of_free hfa) hg (stood_free hr hfa rfl)) Try.call20 rfl rfl) ?_
            refine al_opd rfl rfl rfl (ao_mv (v := .tuple _) rfl) ?_
            refine al_opd rfl rfl rfl (ao_extract (v := .agg _) rfl rfl) ?_
            refine al_opd rfl rfl rfl (ao_extract (v := .int _ _) rfl rfl) ?_
            refine al_opd rfl rfl rfl (ao_alloca (zv46) (by rfl)) ?_
            first | refine al_opd rfl rfl rfl ((ao_storeL Try.sizeOf46 (by rfl) (by rfl) (by exact HLp) (by first | rfl | exact four_get _ _ (by omega) | (simp; (first | done | fail))) (by first | rfl | exact four_get _ _ (by omega) | (simp; (first | done | fail))) (by first | rfl | exact four_get _ _ (by omega) | (simp; (first | done | fail)))).to (SetR.eq (by exact SRp))) ?_ | refine al_opd rfl rfl rfl ((ao_storeP (ds := [.int _ _, .int _ _, .int _ _, .int _ _]) Try.sizeOf46 (by rfl) (by rfl) (by exact HLp) (by first | rfl | exact four_get _ _ (by omega) | (simp; (first | done | fail))) (by first | rfl | exact four_get _ _ (by omega) | (simp; (first | done | fail))) (by exact LTp)).to (SetR.eq (by exact SRp))) ?_
            refine al_opd rfl rfl rfl (ao_as (v := .int _ _) rfl) ?_
            refine al_nilT ?_
            refine aw_seq ?_
            refine aw_seq ?_
            refine aw_region ?_
            refine al_opd rfl rfl rfl (ao_mv (v := .int _ _) rfl) ?_
            refine al_opd rfl rfl rfl (ao_neq rfl rfl) ?_
            refine al_nilT ?_
            refine aw_cond rfl (fun h31_ => ?_) (fun h31_ => ?_)
            · try simp only [nrm] at h31_
              first | done | omega | (exfalso; revert h31_; simp; (first | done | omega))
            try simp only [nrm] at h31_
            refine aw_skipT ?_
            refine aw_seq ?_
            refine aw_seq ?_
            refine aw_region ?_
            refine al_opd rfl rfl rfl (ao_as (v := .int _ _) rfl) ?_
            refine al_nilT ?_
            refine aw_block ?_
            refine aw_loop (fun (gk : Nat) (fr : AFr) (G : AHeap) => ∃ get : Nat → Value, fr = ⟨343, get⟩ ∧ (∃ (i rb : Nat), i ≤ 4 ∧ gk = 4 - i ∧ Same H.next H G ∧ G.blk b5 = some (.cells (roomC r) 1) ∧ G.blk b6 = some (.cells (spot a) 1) ∧ G.blk rb = some (.cells (four (fun i => ((g i : Nat) : Int))) 1) ∧ H.next ≤ G.next ∧ b5 < G.next ∧ b6 < G.next ∧ rb < G.next ∧ get 5 = .pointer (some ⟨b5, 0, none⟩) ∧ get 6 = .pointer (some ⟨b6, 0, none⟩) ∧ get 33 = .pointer (some ⟨rb, 0, none⟩) ∧ get 35 = .int .i64 i)) (4) ⟨_, rfl, ?_⟩ ?_
            · refine ⟨0, _, by omega, rfl, by exact SMp, by exact HLp, by exact HLp, by exact HLp, by exact LEp, ?_, ?_, ?_, rfl, rfl, rfl, rfl⟩ <;> exact LNp
            · rintro gk fr G ⟨get, rfl, i, rb, hi, rfl, hG, hp5, hp6, hrb, hge, hl5, hl6, hlr, g5, g6, g33, g35⟩
              refine aw_slot (d := 5) (v := .pointer (some ⟨b5, 0, none⟩)) (by first | assumption | rfl) ?_
              refine aw_slot (d := 6) (v := .pointer (some ⟨b6, 0, none⟩)) (by first | assumption | rfl) ?_
              refine aw_slot (d := 33) (v := .pointer (some ⟨rb, 0, none⟩)) (by first | assumption | rfl) ?_
              refine aw_slot (d := 35) (v := .int .i64 i) (by first | assumption | rfl) ?_
              refine aw_seq ?_
              refine aw_seq ?_
              refine aw_region ?_
              refine al_opd rfl rfl rfl (ao_mv (v := .int _ _) rfl) ?_
              refine al_opd rfl rfl rfl (ao_lss rfl rfl) ?_
              refine al_nilT ?_
              refine aw_cond rfl (fun h32_ => ?_) (fun h32_ => ?_)
              · try simp only [nrm] at h32_
                have hgi := hg i (by omega)
                have hif : (decide (0 ≤ ((i : Nat) : Int)) && decide (((i : Nat) : Int) ≤ 3)) = true := by rw [decide_eq_true (by omega), decide_eq_true (by omega)]; rfl
                have hg9 := ray_9 hfa (k := ((i : Nat) : Int)) ⟨by omega, by omega⟩ hgi.1
                refine aw_skipT ?_
                refine aw_seq ?_
                refine aw_block ?_
                refine aw_seq ?_
                refine aw_region ?_
                first | refine al_opd rfl rfl rfl (ao_loada Try.isAgg28 Try.sizeOf28 rfl (by exact HLp) (by rfl) (by first | rfl | exact four_get _ _ (by omega) | (simp; (first | done | fail)))) ?_ | refine al_opd rfl rfl rfl (ao_loadsV (A := #[.int _ _, .int _ _, .int _ _, .int _ _, .int _ _, .int _ _, .int _ _, .int _ _, .int _ _, .int _ _, .int _ _, .int _ _]) Try.isAgg28 Try.sizeOf28 hu2x rfl hx0 rfl (by decide)) ?_ | refine al_opd rfl rfl rfl (ao_loadsV (A := #[.int _ _, .int _ _, .int _ _, .int _ _, .int _ _, .int _ _, .int _ _, .int _ _, .int _ _, .int _ _, .int _ _, .int _ _]) Try.isAgg28 Try.sizeOf28 hu2x rfl hxl rfl (by decide)) ?_ | refine al_opd rfl rfl rfl (ao_loadsV (A := #[.int _ _, .int _ _, .int _ _, .int _ _, .int _ _, .int _ _, .int _ _, .int _ _, .int _ _, .int _ _, .int _ _, .int _ _]) Try.isAgg28 Try.sizeOf28 hu2x rfl hxp rfl (by decide)) ?_ | refine al_opd rfl rfl rfl (ao_loadsV (A := #[.int _ _, .int _ _, .int _ _, .int _ _, .int _ _, .int _ _, .int _ _, .int _ _, .int _ _, .int _ _, .int _ _, .int _ _]) Try.isAgg28 Try.sizeOf28 hu2x rfl hxc rfl (by decide)) ?_ | refine al_opd rfl rfl rfl (ao_loadsV (A := #[.int _ _, .int _ _, .int _ _, .int _ _, .int _ _, .int _ _, .int _ _, .int _ _, .int _ _, .int _ _, .int _ _, .int _ _]) Try.isAgg28 Try.sizeOf28 hu1x rfl hx0 rfl (by decide)) ?_ | refine al_opd rfl rfl rfl (ao_loadsV (A := #[.int _ _, .int _ _, .int _ _, .int _ _, .int _ _, .int _ _, .int _ _, .int _ _, .int _ _, .int _ _, .int _ _, .int _ _]) Try.isAgg28 Try.sizeOf28 hu1x rfl hxl rfl (by decide)) ?_ | refine al_opd rfl rfl rfl (ao_loadsV (A := #[.int _ _, .int _ _, .int _ _, .int _ _, .int _ _, .int _ _, .int _ _, .int _ _, .int _ _, .int _ _, .int _ _, .int _ _]) Try.isAgg28 Try.sizeOf28 hu1x rfl hxp rfl (by decide)) ?_ | refine al_opd rfl rfl rfl (ao_loadsV (A := #[.int _ _, .int _ _, .int _ _, .int _ _, .int _ _, .int _ _, .int _ _, .int _ _, .int _ _, .int _ _, .int _ _, .int _ _]) Try.isAgg28 Try.sizeOf28 hu1x rfl hxc rfl (by decide)) ?_
                first | refine al_opd rfl rfl rfl (ao_loada Try.isAgg31 Try.sizeOf31 rfl (by exact HLp) (by rfl) (by first | rfl | exact four_get _ _ (by omega) | (simp; (first | done | fail)))) ?_ | refine al_opd rfl rfl rfl (ao_loadsV (A := #[.int _ _, .int _ _]) Try.isAgg31 Try.sizeOf31 hu2x rfl hx0 rfl (by decide)) ?_ | refine al_opd rfl rfl rfl (ao_loadsV (A := #[.int _ _, .int _ _]) Try.isAgg31 Try.sizeOf31 hu2x rfl hxl rfl (by decide)) ?_ | refine al_opd rfl rfl rfl (ao_loadsV (A := #[.int _ _, .int _ _]) Try.isAgg31 Try.sizeOf31 hu2x rfl hxp rfl (by decide)) ?_ | refine al_opd rfl rfl rfl (ao_loadsV (A := #[.int _ _, .int _ _]) Try.isAgg31 Try.sizeOf31 hu2x rfl hxc rfl (by decide)) ?_ | refine al_opd rfl rfl rfl (ao_loadsV (A := #[.int _ _, .int _ _]) Try.isAgg31 Try.sizeOf31 hu1x rfl hx0 rfl (by decide)) ?_ | refine al_opd rfl rfl rfl (ao_loadsV (A := #[.int _ _, .int _ _]) Try.isAgg31 Try.sizeOf31 hu1x rfl hxl rfl (by decide)) ?_ | refine al_opd rfl rfl rfl (ao_loadsV (A := #[.int _ _, .int _ _]) Try.isAgg31 Try.sizeOf31 hu1x rfl hxp rfl (by decide)) ?_ | refine al_opd rfl rfl rfl (ao_loadsV (A := #[.int _ _, .int _ _]) Try.isAgg31 Try.sizeOf31 hu1x rfl hxc rfl (by decide)) ?_
                refine al_opd rfl rfl rfl (ao_mv (v := .int _ _) rfl) ?_
                refine al_opd rfl rfl rfl (ao_calld (implRay1_c (r := r) (s := a) (k := (i : Nat)) (n := g i) hw (wf_of_free hfa) hgi.1 hgi.2 (stood_free hr hfa hif)) Try.call21 rfl rfl) ?_
                refine al_opd rfl rfl rfl (ao_mv (v := .tuple _) rfl) ?_
                refine al_opd rfl rfl rfl (ao_extract (v := .int _ _) rfl rfl) ?_
                refine al_opd rfl rfl rfl (ao_extract (v := .int _ _) rfl rfl) ?_
                refine al_opd rfl rfl rfl (ao_as (v := .int _ _) rfl) ?_
                refine al_opd rfl rfl rfl (ao_as (v := .int _ _) rfl) ?_
                refine al_nilT ?_
                refine aw_seq ?_
                refine aw_seq ?_
                refine aw_region ?_
                refine al_opd rfl rfl rfl (ao_mv (v := .int _ _) rfl) ?_
                refine al_opd rfl rfl rfl (ao_neq rfl rfl) ?_
                refine al_opd rfl rfl rfl (ao_mv (v := .bool _) rfl) ?_
                refine al_cases (d := 310) rfl (fun h33_ => ?_) (fun h33_ => ?_)
                · try simp only [nrm] at h33_
                  first | done | omega | (exfalso; revert h33_; simp; (first | done | omega))
                try simp only [nrm] at h33_
                refine al_gyes rfl rfl rfl rfl rfl (ao_mv (v := .int _ _) rfl) ?_
                refine al_gyes rfl rfl rfl rfl rfl (ao_mv (v := .int _ _) rfl) ?_
                refine al_gyes rfl rfl rfl rfl rfl (ao_indexAddrA Try.underlying46 Try.sizeOf2 rfl rfl (by exact IXp) (by exact IXp)) ?_
                first | refine al_gyes rfl rfl rfl rfl rfl (ao_load (v := .int _ _) Try.isAgg2 (by rfl) (by exact HLp) (by rfl) (by first | rfl | exact four_get _ _ (by omega) | (simp; (first | done | fail)))) ?_ | refine al_gyes rfl rfl rfl rfl rfl (ao_loadV (j := 0) (u := .int _ _) Try.isAgg2 hu2x rfl rfl hx0 rfl) ?_ | refine al_gyes rfl rfl rfl rfl rfl (ao_loadV (j := 1) (u := .int _ _) Try.isAgg2 hu2x rfl rfl hx0 rfl) ?_ | refine al_gyes rfl rfl rfl rfl rfl (ao_loadV (j := 0) (u := .int _ _) Try.isAgg2 hu2x rfl rfl hxl rfl) ?_ | refine al_gyes rfl rfl rfl rfl rfl (ao_loadV (j := 1) (u := .int _ _) Try.isAgg2 hu2x rfl rfl hxl rfl) ?_ | refine al_gyes rfl rfl rfl rfl rfl (ao_loadV (j := 0) (u := .int _ _) Try.isAgg2 hu2x rfl rfl hxp rfl) ?_ | refine al_gyes rfl rfl rfl rfl rfl (ao_loadV (j := 1) (u := .int _ _) Try.isAgg2 hu2x rfl rfl hxp rfl) ?_ | refine al_gyes rfl rfl rfl rfl rfl (ao_loadV (j := 0) (u := .int _ _) Try.isAgg2 hu2x rfl rfl hxc rfl) ?_ | refine al_gyes rfl rfl rfl rfl rfl (ao_loadV (j := 1) (u := .int _ _) Try.isAgg2 hu2x rfl rfl hxc rfl) ?_ | refine al_gyes rfl rfl rfl rfl rfl (ao_loadV (j := 0) (u := .int _ _) Try.isAgg2 hu1x rfl rfl hx0 rfl) ?_ | refine al_gyes rfl rfl rfl rfl rfl (ao_loadV (j := 1) (u := .int _ _) Try.isAgg2 hu1x rfl rfl hx0 rfl) ?_ | refine al_gyes rfl rfl rfl rfl rfl (ao_loadV (j := 0) (u := .int _ _) Try.isAgg2 hu1x rfl rfl hxl rfl) ?_ | refine al_gyes rfl rfl rfl rfl rfl (ao_loadV (j := 1) (u := .int _ _) Try.isAgg2 hu1x rfl rfl hxl rfl) ?_ | refine al_gyes rfl rfl rfl rfl rfl (ao_loadV (j := 0) (u := .int _ _) Try.isAgg2 hu1x rfl rfl hxp rfl) ?_ | refine al_gyes rfl rfl rfl rfl rfl (ao_loadV (j := 1) (u := .int _ _) Try.isAgg2 hu1x rfl rfl hxp rfl) ?_ | refine al_gyes rfl rfl rfl rfl rfl (ao_loadV (j := 0) (u := .int _ _) Try.isAgg2 hu1x rfl rfl hxc rfl) ?_ | refine al_gyes rfl rfl rfl rfl rfl (ao_loadV (j := 1) (u := .int _ _) Try.isAgg2 hu1x rfl rfl hxc rfl) ?_
                refine al_gyes rfl rfl rfl rfl rfl (ao_neq rfl rfl) ?_
                refine al_opd rfl rfl rfl (ao_pickF rfl (v := .bool _) rfl) ?_
                refine al_opd rfl rfl rfl (ao_mv (v := .bool _) rfl) ?_
                refine al_cases (d := 317) rfl (fun h34_ => ?_) (fun h34_ => ?_)
                · try simp only [nrm] at h34_
                  first | done | omega | (exfalso; revert h34_; simp; (first | done | omega))
                try simp only [nrm] at h34_
                refine al_gyes rfl rfl rfl rfl rfl (ao_mv (v := .int _ _) rfl) ?_
                refine al_gyes rfl rfl rfl rfl rfl (ao_lss rfl rfl) ?_
                refine al_opd rfl rfl rfl (ao_pickF rfl (v := .bool _) rfl) ?_
                refine al_opd rfl rfl rfl (ao_mv (v := .bool _) rfl) ?_
                refine al_cases (d := 321) rfl (fun h35_ => ?_) (fun h35_ => ?_)
                · try simp only [nrm] at h35_
                  first | done | omega | (exfalso; revert h35_; simp; (first | done | omega))
                try simp only [nrm] at h35_
                refine al_gyes rfl rfl rfl rfl rfl (ao_mv (v := .int _ _) rfl) ?_
                refine al_gyes rfl rfl rfl rfl rfl (ao_gtr rfl rfl) ?_
                refine al_opd rfl rfl rfl (ao_pickF rfl (v := .bool _) rfl) ?_
                refine al_nilT ?_
                refine aw_cond rfl (fun h36_ => ?_) (fun h36_ => ?_)
                · try simp only [nrm] at h36_
                  first | done | omega | (exfalso; revert h36_; simp; (first | done | omega))
                try simp only [nrm] at h36_
                refine aw_skipT ?_
                refine aw_seq ?_
                refine aw_region ?_
                first | refine al_opd rfl rfl rfl (ao_loada Try.isAgg31 Try.sizeOf31 rfl (by exact HLp) (by rfl) (by first | rfl | exact four_get _ _ (by omega) | (simp; (first | done | fail)))) ?_ | refine al_opd rfl rfl rfl (ao_loadsV (A := #[.int _ _, .int _ _]) Try.isAgg31 Try.sizeOf31 hu2x rfl hx0 rfl (by decide)) ?_ | refine al_opd rfl rfl rfl (ao_loadsV (A := #[.int _ _, .int _ _]) Try.isAgg31 Try.sizeOf31 hu2x rfl hxl rfl (by decide)) ?_ | refine al_opd rfl rfl rfl (ao_loadsV (A := #[.int _ _, .int _ _]) Try.isAgg31 Try.sizeOf31 hu2x rfl hxp rfl (by decide)) ?_ | refine al_opd rfl rfl rfl (ao_loadsV (A := #[.int _ _, .int _ _]) Try.isAgg31 Try.sizeOf31 hu2x rfl hxc rfl (by decide)) ?_ | refine al_opd rfl rfl rfl (ao_loadsV (A := #[.int _ _, .int _ _]) Try.isAgg31 Try.sizeOf31 hu1x rfl hx0 rfl (by decide)) ?_ | refine al_opd rfl rfl rfl (ao_loadsV (A := #[.int _ _, .int _ _]) Try.isAgg31 Try.sizeOf31 hu1x rfl hxl rfl (by decide)) ?_ | refine al_opd rfl rfl rfl (ao_loadsV (A := #[.int _ _, .int _ _]) Try.isAgg31 Try.sizeOf31 hu1x rfl hxp rfl (by decide)) ?_ | refine al_opd rfl rfl rfl (ao_loadsV (A := #[.int _ _, .int _ _]) Try.isAgg31 Try.sizeOf31 hu1x rfl hxc rfl (by decide)) ?_
                refine al_opd rfl rfl rfl (ao_alloca (zv31) (by rfl)) ?_
                first | refine al_opd rfl rfl rfl ((ao_storeL Try.sizeOf31 (by rfl) (by rfl) (by exact HLp) (by first | rfl | exact four_get _ _ (by omega) | (simp; (first | done | fail))) (by first | rfl | exact four_get _ _ (by omega) | (simp; (first | done | fail))) (by first | rfl | exact four_get _ _ (by omega) | (simp; (first | done | fail)))).to (SetR.eq (by exact SRp))) ?_ | refine al_opd rfl rfl rfl ((ao_storeP (ds := [.int _ _, .int _ _]) Try.sizeOf31 (by rfl) (by rfl) (by exact HLp) (by first | rfl | exact four_get _ _ (by omega) | (simp; (first | done | fail))) (by first | rfl | exact four_get _ _ (by omega) | (simp; (first | done | fail))) (by exact LTp)).to (SetR.eq (by exact SRp))) ?_
                refine al_nilT ?_
                refine aw_seq ?_
                refine aw_seq ?_
                refine aw_region ?_
                refine al_opd rfl rfl rfl (ao_as (v := .int _ _) rfl) ?_
                refine al_nilT ?_
                refine aw_block ?_
                refine aw_loop (fun (gk : Nat) (fr : AFr) (G : AHeap) => ∃ get : Nat → Value, fr = ⟨343, get⟩ ∧ (∃ (k tb : Nat), k ≤ g i ∧ gk = g i - k ∧ Same H.next H G ∧ G.blk b5 = some (.cells (roomC r) 1) ∧ G.blk b6 = some (.cells (spot a) 1) ∧ G.blk rb = some (.cells (four (fun i => ((g i : Nat) : Int))) 1) ∧ H.next ≤ G.next ∧ b5 < G.next ∧ b6 < G.next ∧ rb < G.next ∧ H.next ≤ tb ∧ tb < G.next ∧ tb ≠ b5 ∧ tb ≠ b6 ∧ tb ≠ rb ∧ G.blk tb = some (.cells (spot (stepS a (i : Nat) k)) 1) ∧ get 5 = .pointer (some ⟨b5, 0, none⟩) ∧ get 6 = .pointer (some ⟨b6, 0, none⟩) ∧ get 33 = .pointer (some ⟨rb, 0, none⟩) ∧ get 35 = .int .i64 i ∧ get 36 = .int .i64 (g i : Nat) ∧ get 38 = .pointer (some ⟨tb, 0, none⟩) ∧ get 39 = .int .i64 k)) (g i) ⟨_, rfl, ?_⟩ ?_
                · refine ⟨0, G.next, Nat.zero_le _, rfl, by exact SMp, by exact HLp, by exact HLp, by exact HLp, by exact LEp, ?_, ?_, ?_, ?_, ?_, ?_, ?_, ?_, by exact HLp, rfl, rfl, rfl, rfl, rfl, rfl, rfl⟩ <;> exact LNp
                · rintro gk fr G ⟨get, rfl, k, tb, hk, rfl, hG, hp5, hp6, hrb, hge, hl5, hl6, hlr, htg, hlt, ht5, ht6, htr, htb, g5, g6, g33, g35, g36, g38, g39⟩
                  refine aw_slot (d := 5) (v := .pointer (some ⟨b5, 0, none⟩)) (by first | assumption | rfl) ?_
                  refine aw_slot (d := 6) (v := .pointer (some ⟨b6, 0, none⟩)) (by first | assumption | rfl) ?_
                  refine aw_slot (d := 33) (v := .pointer (some ⟨rb, 0, none⟩)) (by first | assumption | rfl) ?_
                  refine aw_slot (d := 35) (v := .int .i64 i) (by first | assumption | rfl) ?_
                  refine aw_slot (d := 36) (v := .int .i64 (g i : Nat)) (by first | assumption | rfl) ?_
                  refine aw_slot (d := 38) (v := .pointer (some ⟨tb, 0, none⟩)) (by first | assumption | rfl) ?_
                  refine aw_slot (d := 39) (v := .int .i64 k) (by first | assumption | rfl) ?_
                  refine aw_seq ?_
                  refine aw_seq ?_
                  refine aw_region ?_
                  refine al_opd rfl rfl rfl (ao_mv (v := .int _ _) rfl) ?_
                  refine al_opd rfl rfl rfl (ao_mv (v := .int _ _) rfl) ?_
                  refine al_opd rfl rfl rfl (ao_lss rfl rfl) ?_
                  refine al_nilT ?_
                  refine aw_cond rfl (fun h37_ => ?_) (fun h37_ => ?_)
                  · try simp only [nrm] at h37_
                    have hfk := hgi.1.1 k (by omega)
                    refine aw_skipT ?_
                    refine aw_seq ?_
                    refine aw_block ?_
                    refine aw_seq ?_
                    refine aw_region ?_
                    first | refine al_opd rfl rfl rfl (ao_loada Try.isAgg31 Try.sizeOf31 rfl (by exact HLp) (by rfl) (by first | rfl | exact four_get _ _ (by omega) | (simp; (first | done | fail)))) ?_ | refine al_opd rfl rfl rfl (ao_loadsV (A := #[.int _ _, .int _ _]) Try.isAgg31 Try.sizeOf31 hu2x rfl hx0 rfl (by decide)) ?_ | refine al_opd rfl rfl rfl (ao_loadsV (A := #[.int _ _, .int _ _]) Try.isAgg31 Try.sizeOf31 hu2x rfl hxl rfl (by decide)) ?_ | refine al_opd rfl rfl rfl (ao_loadsV (A := #[.int _ _, .int _ _]) Try.isAgg31 Try.sizeOf31 hu2x rfl hxp rfl (by decide)) ?_ | refine al_opd rfl rfl rfl (ao_loadsV (A := #[.int _ _, .int _ _]) Try.isAgg31 Try.sizeOf31 hu2x rfl hxc rfl (by decide)) ?_ | refine al_opd rfl rfl rfl (ao_loadsV (A := #[.int _ _, .int _ _]) Try.isAgg31 Try.sizeOf31 hu1x rfl hx0 rfl (by decide)) ?_ | refine al_opd rfl rfl rfl (ao_loadsV (A := #[.int _ _, .int _ _]) Try.isAgg31 Try.sizeOf31 hu1x rfl hxl rfl (by decide)) ?_ | refine al_opd rfl rfl rfl (ao_loadsV (A := #[.int _ _, .int _ _]) Try.isAgg31 Try.sizeOf31 hu1x rfl hxp rfl (by decide)) ?_ | refine al_opd rfl rfl rfl (ao_loadsV (A := #[.int _ _, .int _ _]) Try.isAgg31 Try.sizeOf31 hu1x rfl hxc rfl (by decide)) ?_
                    refine al_opd rfl rfl rfl (ao_mv (v := .int _ _) rfl) ?_
                    refine al_opd rfl rfl rfl (ao_calld (specNext_c (s := stepS a (i : Nat) k) (k := (i : Nat))) Try.call22 rfl rfl) ?_
                    first | refine al_opd rfl rfl rfl ((ao_storeL Try.sizeOf31 (by rfl) (by rfl) (by exact HLp) (by first | rfl | exact four_get _ _ (by omega) | (simp; (first | done | fail))) (by first | rfl | exact four_get _ _ (by omega) | (simp; (first | done | fail))) (by first | rfl | exact four_get _ _ (by omega) | (simp; (first | done | fail)))).to (SetR.eq (by exact SRp))) ?_ | refine al_opd rfl rfl rfl ((ao_storeP (ds := [.int _ _, .int _ _]) Try.sizeOf31 (by rfl) (by rfl) (by exact HLp) (by first | rfl | exact four_get _ _ (by omega) | (simp; (first | done | fail))) (by first | rfl | exact four_get _ _ (by omega) | (simp; (first | done | fail))) (by exact LTp)).to (SetR.eq (by exact SRp))) ?_
                    refine al_nilT ?_
                    refine aw_seq ?_
                    refine aw_region ?_
                    first | refine al_opd rfl rfl rfl (ao_loada Try.isAgg28 Try.sizeOf28 rfl (by exact HLp) (by rfl) (by first | rfl | exact four_get _ _ (by omega) | (simp; (first | done | fail)))) ?_ | refine al_opd rfl rfl rfl (ao_loadsV (A := #[.int _ _, .int _ _, .int _ _, .int _ _, .int _ _, .int _ _, .int _ _, .int _ _, .int _ _, .int _ _, .int _ _, .int _ _]) Try.isAgg28 Try.sizeOf28 hu2x rfl hx0 rfl (by decide)) ?_ | refine al_opd rfl rfl rfl (ao_loadsV (A := #[.int _ _, .int _ _, .int _ _, .int _ _, .int _ _, .int _ _, .int _ _, .int _ _, .int _ _, .int _ _, .int _ _, .int _ _]) Try.isAgg28 Try.sizeOf28 hu2x rfl hxl rfl (by decide)) ?_ | refine al_opd rfl rfl rfl (ao_loadsV (A := #[.int _ _, .int _ _, .int _ _, .int _ _, .int _ _, .int _ _, .int _ _, .int _ _, .int _ _, .int _ _, .int _ _, .int _ _]) Try.isAgg28 Try.sizeOf28 hu2x rfl hxp rfl (by decide)) ?_ | refine al_opd rfl rfl rfl (ao_loadsV (A := #[.int _ _, .int _ _, .int _ _, .int _ _, .int _ _, .int _ _, .int _ _, .int _ _, .int _ _, .int _ _, .int _ _, .int _ _]) Try.isAgg28 Try.sizeOf28 hu2x rfl hxc rfl (by decide)) ?_ | refine al_opd rfl rfl rfl (ao_loadsV (A := #[.int _ _, .int _ _, .int _ _, .int _ _, .int _ _, .int _ _, .int _ _, .int _ _, .int _ _, .int _ _, .int _ _, .int _ _]) Try.isAgg28 Try.sizeOf28 hu1x rfl hx0 rfl (by decide)) ?_ | refine al_opd rfl rfl rfl (ao_loadsV (A := #[.int _ _, .int _ _, .int _ _, .int _ _, .int _ _, .int _ _, .int _ _, .int _ _, .int _ _, .int _ _, .int _ _, .int _ _]) Try.isAgg28 Try.sizeOf28 hu1x rfl hxl rfl (by decide)) ?_ | refine al_opd rfl rfl rfl (ao_loadsV (A := #[.int _ _, .int _ _, .int _ _, .int _ _, .int _ _, .int _ _, .int _ _, .int _ _, .int _ _, .int _ _, .int _ _, .int _ _]) Try.isAgg28 Try.sizeOf28 hu1x rfl hxp rfl (by decide)) ?_ | refine al_opd rfl rfl rfl (ao_loadsV (A := #[.int _ _, .int _ _, .int _ _, .int _ _, .int _ _, .int _ _, .int _ _, .int _ _, .int _ _, .int _ _, .int _ _, .int _ _]) Try.isAgg28 Try.sizeOf28 hu1x rfl hxc rfl (by decide)) ?_
                    first | refine al_opd rfl rfl rfl (ao_loada Try.isAgg31 Try.sizeOf31 rfl (by exact HLp) (by rfl) (by first | rfl | exact four_get _ _ (by omega) | (simp; (first | done | fail)))) ?_ | refine al_opd rfl rfl rfl (ao_loadsV (A := #[.int _ _, .int _ _]) Try.isAgg31 Try.sizeOf31 hu2x rfl hx0 rfl (by decide)) ?_ | refine al_opd rfl rfl rfl (ao_loadsV (A := #[.int _ _, .int _ _]) Try.isAgg31 Try.sizeOf31 hu2x rfl hxl rfl (by decide)) ?_ | refine al_opd rfl rfl rfl (ao_loadsV (A := #[.int _ _, .int _ _]) Try.isAgg31 Try.sizeOf31 hu2x rfl hxp rfl (by decide)) ?_ | refine al_opd rfl rfl rfl (ao_loadsV (A := #[.int _ _, .int _ _]) Try.isAgg31 Try.sizeOf31 hu2x rfl hxc rfl (by decide)) ?_ | refine al_opd rfl rfl rfl (ao_loadsV (A := #[.int _ _, .int _ _]) Try.isAgg31 Try.sizeOf31 hu1x rfl hx0 rfl (by decide)) ?_ | refine al_opd rfl rfl rfl (ao_loadsV (A := #[.int _ _, .int _ _]) Try.isAgg31 Try.sizeOf31 hu1x rfl hxl rfl (by decide)) ?_ | refine al_opd rfl rfl rfl (ao_loadsV (A := #[.int _ _, .int _ _]) Try.isAgg31 Try.sizeOf31 hu1x rfl hxp rfl (by decide)) ?_ | refine al_opd rfl rfl rfl (ao_loadsV (A := #[.int _ _, .int _ _]) Try.isAgg31 Try.sizeOf31 hu1x rfl hxc rfl (by decide)) ?_
                    refine al_opd rfl rfl rfl (ao_calld (specIsFree_c (r := r) (s := stepS a (i : Nat) (k + 1)) (b := true) hw (wf_of_free hfk) ⟨fun _ => ⟨hr, hfk⟩, fun _ => rfl⟩) Try.call15 rfl rfl) ?_
                    refine al_opd rfl rfl rfl (ao_not rfl) ?_
                    refine al_nilT ?_
                    refine aw_cond rfl (fun h38_ => ?_) (fun h38_ => ?_)
                    · try simp only [nrm] at h38_
                      first | done | omega | (exfalso; revert h38_; simp; (first | done | omega))
                    try simp only [nrm] at h38_
                    refine aw_skipB ?_
                    refine thenA_n ?_
                    refine aw_region ?_
                    refine al_opd rfl rfl rfl (ao_mv (v := .int _ _) rfl) ?_
                    first | refine al_opd rfl rfl rfl ((ao_add rfl rfl).val (nw_i64 BDp BDp)) ?_ | refine al_opd rfl rfl rfl (ao_add rfl rfl) ?_
                    refine al_opd rfl rfl rfl (ao_as (v := .int _ _) rfl) ?_
                    refine al_nilT ?_
                    refine ⟨_, ?_, _, rfl, k + 1, tb, by omega, rfl, by exact SMp, by exact HLp, by exact HLp, by exact HLp, by exact LEp, ?_, ?_, ?_, htg, ?_, ht5, ht6, htr, by exact HLp, rfl, rfl, rfl, rfl, rfl, rfl, by rfl⟩
                    · omega
                    · exact LNp
                    · exact LNp
                    · exact LNp
                    · exact LNp
                  · try simp only [nrm] at h37_
                    have hke : k = g i := by omega
                    subst hke
                    have hnf := hgi.1.2
                    refine aw_exit ?_
                    refine thenA_x ?_
                    refine thenA_x ?_
                    refine blockA_hit ?_
                    refine thenA_n ?_
                    refine aw_seq ?_
                    refine aw_draw (m := 5) mo (by kernel_rfl) rfl (fun _ _ _ h => h) ?_
                    first | refine dw_opd rfl rfl rfl (ao_loada Try.isAgg28 Try.sizeOf28 rfl (by exact HLp) (by rfl) (by first | rfl | exact four_get _ _ (by omega) | (simp; (first | done | fail)))) ?_ | refine dw_opd rfl rfl rfl (ao_loadsV (A := #[.int _ _, .int _ _, .int _ _, .int _ _, .int _ _, .int _ _, .int _ _, .int _ _, .int _ _, .int _ _, .int _ _, .int _ _]) Try.isAgg28 Try.sizeOf28 hu2x rfl hx0 rfl (by decide)) ?_ | refine dw_opd rfl rfl rfl (ao_loadsV (A := #[.int _ _, .int _ _, .int _ _, .int _ _, .int _ _, .int _ _, .int _ _, .int _ _, .int _ _, .int _ _, .int _ _, .int _ _]) Try.isAgg28 Try.sizeOf28 hu2x rfl hxl rfl (by decide)) ?_ | refine dw_opd rfl rfl rfl (ao_loadsV (A := #[.int _ _, .int _ _, .int _ _, .int _ _, .int _ _, .int _ _, .int _ _, .int _ _, .int _ _, .int _ _, .int _ _, .int _ _]) Try.isAgg28 Try.sizeOf28 hu2x rfl hxp rfl (by decide)) ?_ | refine dw_opd rfl rfl rfl (ao_loadsV (A := #[.int _ _, .int _ _, .int _ _, .int _ _, .int _ _, .int _ _, .int _ _, .int _ _, .int _ _, .int _ _, .int _ _, .int _ _]) Try.isAgg28 Try.sizeOf28 hu2x rfl hxc rfl (by decide)) ?_ | refine dw_opd rfl rfl rfl (ao_loadsV (A := #[.int _ _, .int _ _, .int _ _, .int _ _, .int _ _, .int _ _, .int _ _, .int _ _, .int _ _, .int _ _, .int _ _, .int _ _]) Try.isAgg28 Try.sizeOf28 hu1x rfl hx0 rfl (by decide)) ?_ | refine dw_opd rfl rfl rfl (ao_loadsV (A := #[.int _ _, .int _ _, .int _ _, .int _ _, .int _ _, .int _ _, .int _ _, .int _ _, .int _ _, .int _ _, .int _ _, .int _ _]) Try.isAgg28 Try.sizeOf28 hu1x rfl hxl rfl (by decide)) ?_ | refine dw_opd rfl rfl rfl (ao_loadsV (A := #[.int _ _, .int _ _, .int _ _, .int _ _, .int _ _, .int _ _, .int _ _, .int _ _, .int _ _, .int _ _, .int _ _, .int _ _]) Try.isAgg28 Try.sizeOf28 hu1x rfl hxp rfl (by decide)) ?_ | refine dw_opd rfl rfl rfl (ao_loadsV (A := #[.int _ _, .int _ _, .int _ _, .int _ _, .int _ _, .int _ _, .int _ _, .int _ _, .int _ _, .int _ _, .int _ _, .int _ _]) Try.isAgg28 Try.sizeOf28 hu1x rfl hxc rfl (by decide)) ?_
                    first | refine dw_opd rfl rfl rfl (ao_loada Try.isAgg31 Try.sizeOf31 rfl (by exact HLp) (by rfl) (by first | rfl | exact four_get _ _ (by omega) | (simp; (first | done | fail)))) ?_ | refine dw_opd rfl rfl rfl (ao_loadsV (A := #[.int _ _, .int _ _]) Try.isAgg31 Try.sizeOf31 hu2x rfl hx0 rfl (by decide)) ?_ | refine dw_opd rfl rfl rfl (ao_loadsV (A := #[.int _ _, .int _ _]) Try.isAgg31 Try.sizeOf31 hu2x rfl hxl rfl (by decide)) ?_ | refine dw_opd rfl rfl rfl (ao_loadsV (A := #[.int _ _, .int _ _]) Try.isAgg31 Try.sizeOf31 hu2x rfl hxp rfl (by decide)) ?_ | refine dw_opd rfl rfl rfl (ao_loadsV (A := #[.int _ _, .int _ _]) Try.isAgg31 Try.sizeOf31 hu2x rfl hxc rfl (by decide)) ?_ | refine dw_opd rfl rfl rfl (ao_loadsV (A := #[.int _ _, .int _ _]) Try.isAgg31 Try.sizeOf31 hu1x rfl hx0 rfl (by decide)) ?_ | refine dw_opd rfl rfl rfl (ao_loadsV (A := #[.int _ _, .int _ _]) Try.isAgg31 Try.sizeOf31 hu1x rfl hxl rfl (by decide)) ?_ | refine dw_opd rfl rfl rfl (ao_loadsV (A := #[.int _ _, .int _ _]) Try.isAgg31 Try.sizeOf31 hu1x rfl hxp rfl (by decide)) ?_ | refine dw_opd rfl rfl rfl (ao_loadsV (A := #[.int _ _, .int _ _]) Try.isAgg31 Try.sizeOf31 hu1x rfl hxc rfl (by decide)) ?_
                    refine dw_opd rfl rfl rfl (ao_mv (v := .int _ _) rfl) ?_
                    refine dw_opd rfl rfl rfl (ao_calld (specNext_c (s := stepS a (i : Nat) (g i)) (k := (i : Nat))) Try.call22 rfl rfl) ?_
                    refine dw_opd rfl rfl rfl (ao_calld (specIsFree_c (r := r) (s := stepS a (i : Nat) (g i + 1)) (b := false) hw (wf_step (wf_of_free hfa) _ _) ⟨fun e => (by cases e), fun e => absurd e.2 hnf⟩) Try.call15 rfl rfl) ?_
                    refine dw_end ?_
                    refine al_nilT ?_
                    refine aw_cond rfl (fun h39_ => ?_) (fun h39_ => ?_)
                    · try simp only [nrm] at h39_
                      first | done | omega | (exfalso; revert h39_; simp; (first | done | omega))
                    try simp only [nrm] at h39_
                    refine aw_skipB ?_
                    refine thenA_n ?_
                    refine aw_region ?_
                    refine al_opd rfl rfl rfl (ao_mv (v := .int _ _) rfl) ?_
                    first | refine al_opd rfl rfl rfl ((ao_add rfl rfl).val (nw_i64 BDp BDp)) ?_ | refine al_opd rfl rfl rfl (ao_add rfl rfl) ?_
                    refine al_opd rfl rfl rfl (ao_as (v := .int _ _) rfl) ?_
                    refine al_nilT ?_
                    refine ⟨_, ?_, _, rfl, i + 1, rb, by omega, rfl, by exact SMp, by exact HLp, by exact HLp, by exact HLp, by exact LEp, ?_, ?_, ?_, rfl, rfl, rfl, by rfl⟩
                    · omega
                    · exact LNp
                    · exact LNp
                    · exact LNp
              · try simp only [nrm] at h32_
                refine aw_exit ?_
                refine thenA_x ?_
                refine thenA_x ?_
                refine blockA_hit ?_
                refine thenA_n ?_
                refine aw_seq ?_
                refine aw_region ?_
                refine al_opd rfl rfl rfl (ao_as (v := .bool _) rfl) ?_
                refine al_nilT ?_
                refine aw_ret ?_
                refine ends1 rfl (rv_tmp (v := .bool _) rfl) ?_
                exact ⟨by first | rfl | (simp [*]; (first | done | fail)), by exact SMp⟩

end Go.Proofs.Ytmafkbminigbcaa
