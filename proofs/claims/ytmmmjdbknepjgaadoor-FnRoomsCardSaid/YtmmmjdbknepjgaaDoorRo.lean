/- Contracts of the program's functions over abstract heaps. -/
import Derived.Test.YtmmmjdbknepjgaaDoorPts
import Derived.Test.YtmmmjdbknepjgaaDoorRooms
import Derived.Test.YtmmmjdbknepjgaaDoorRm
import Derived.Test.YtmmmjdbknepjgaaDoorPa
namespace Go.Proofs.YtmmmjdbknepjgaaDoor
open Go Go.AW Go.Proofs
set_option linter.unusedVariables false
set_option linter.unusedSimpArgs false
set_option maxRecDepth 100000
set_option maxHeartbeats 2000000

theorem eqRR_c {r : Room} : ∀ w, (Op.equalIn 10000 28 (.agg (roomC r).toArray) (.agg (roomC r).toArray)).run Tryd.prog w = .ok true w := by
  obtain ⟨i, hi⟩ : ∃ i, Tryd.prog.info? 25 = some i := Option.isSome_iff_exists.mp (by kernel_rfl)
  have hb := eqWallsT (P := Tryd.prog) 9997 Tryd.underlying26 hi Tryd.underlying25 (by kernel_rfl) r.f
  have key : ∀ w, (Op.equalIn 10000 28 (.agg (roomC r).toArray) (.agg (roomC r).toArray)).run Tryd.prog w = .ok ((r.w == r.w) && ((r.h == r.h) && true)) w := by
    refine fun w => seq_all (d := 9999) Tryd.underlying28 (by kernel_rfl) ?_
    refine seq_more (by rfl) (by go_simp; rfl) (by go_simp; rfl) (by go_simp) ?_
    refine seq_more (by rfl) (by go_simp; rfl) (by go_simp; rfl) (by go_simp) ?_
    exact seq_one (by rfl) (by go_simp; rfl) (by go_simp; rfl) (hb w)
  intro w
  rw [key w]; simp

-- impl.SameRoom
theorem implSame_c {r : Room} {H : AHeap} : ACd Tryd.prog 18 [.agg (roomC r).toArray, .agg (roomC r).toArray] H (.bool true) (H) := by
  refine ac_gc0 (fun β => VR.plainT β (by first | rfl | simp [plainT, plainV, plain1])) (ac_body Tryd.func18 rfl Tryd.ntmps18 rfl ?_)
  refine aw_seq ?_
  refine aw_region ?_
  refine al_opd rfl rfl rfl (ao_boxa (by rfl)) ?_
  refine al_opd rfl rfl rfl (ao_boxa (by rfl)) ?_
  refine al_opd rfl rfl rfl (ao_as (v := .bool _) rfl) ?_
  refine al_nilT ?_
  refine aw_seq ?_
  refine aw_region ?_
  refine al_opd rfl rfl rfl (ao_loada Tryd.isAgg28 Tryd.sizeOf28 rfl (by exact HLp) (by rfl) (by exact RFp)) ?_
  refine al_opd rfl rfl rfl (ao_loada Tryd.isAgg28 Tryd.sizeOf28 rfl (by exact HLp) (by rfl) (by exact RFp)) ?_
  refine al_opd rfl rfl rfl (ao_eqV Tryd.eqGuardType28 rfl rfl rfl rfl eqRR_c) ?_
  refine al_opd rfl rfl rfl (ao_as (v := .bool _) rfl) ?_
  refine al_nilT ?_
  refine aw_ret ?_
  refine ends1 rfl (rv_tmp (v := .bool _) rfl) ?_
  exact ⟨by first | rfl | (simp [*]; (first | done | fail)), by exact SMp⟩

-- spec.A2SameParts
theorem sameParts_c {v u : Value} {out : List (List Spot)} {H : AHeap} (hv : SS H v out) (hu : SS H u out) (hle : ∀ p ∈ out, p.length ≤ 100) (hlo : out.length ≤ 100) : ACd Tryd.prog 19 [v, u] H (.bool true) (H) := by
  obtain ⟨vs, hs1, hl1, he1⟩ := hv
  obtain ⟨us, hs2, hl2, he2⟩ := hu
  refine ac_gc0 (fun β => VR.plainT β (by first | rfl | simp [plainT, plainV, plain1])) (ac_body Tryd.func19 rfl Tryd.ntmps19 rfl ?_)
  refine aw_seq ?_
  refine aw_region ?_
  refine al_opd rfl rfl rfl (ao_as (v := .bool _) rfl) ?_
  refine al_nilT ?_
  refine aw_seq ?_
  refine aw_seq ?_
  refine aw_region ?_
  first | refine al_opd rfl rfl rfl (ao_mv (v := .slice _ _ _) rfl) ?_ | refine al_opd rfl rfl rfl (ao_mv (v := v) rfl) ?_ | refine al_opd rfl rfl rfl (ao_mv (v := u) rfl) ?_ | refine al_opd rfl rfl rfl (ao_mv (v := x) rfl) ?_ | refine al_opd rfl rfl rfl (ao_mv (v := y) rfl) ?_
  first | refine al_opd rfl rfl rfl (ao_lenS Tryd.underlying34 (by rfl)) ?_ | refine al_opd rfl rfl rfl (ao_lenN Tryd.underlying34 (by rfl)) ?_ | refine al_opd rfl rfl rfl (ao_lenV Tryd.underlying34 rfl hs1) ?_ | refine al_opd rfl rfl rfl (ao_lenV Tryd.underlying34 rfl hs2) ?_
  first | refine al_opd rfl rfl rfl (ao_mv (v := .slice _ _ _) rfl) ?_ | refine al_opd rfl rfl rfl (ao_mv (v := v) rfl) ?_ | refine al_opd rfl rfl rfl (ao_mv (v := u) rfl) ?_ | refine al_opd rfl rfl rfl (ao_mv (v := x) rfl) ?_ | refine al_opd rfl rfl rfl (ao_mv (v := y) rfl) ?_
  first | refine al_opd rfl rfl rfl (ao_lenS Tryd.underlying34 (by rfl)) ?_ | refine al_opd rfl rfl rfl (ao_lenN Tryd.underlying34 (by rfl)) ?_ | refine al_opd rfl rfl rfl (ao_lenV Tryd.underlying34 rfl hs1) ?_ | refine al_opd rfl rfl rfl (ao_lenV Tryd.underlying34 rfl hs2) ?_
  refine al_opd rfl rfl rfl (ao_neq rfl rfl) ?_
  refine al_nilT ?_
  refine aw_cond rfl (fun h1_ => ?_) (fun h1_ => ?_)
  · try simp only [nrm] at h1_
    first | done | omega | (exfalso; revert h1_; simp; (first | done | omega))
  try simp only [nrm] at h1_
  refine aw_skipT ?_
  refine aw_seq ?_
  refine aw_seq ?_
  refine aw_region ?_
  refine al_opd rfl rfl rfl (ao_as (v := .int _ _) rfl) ?_
  refine al_nilT ?_
  refine aw_block ?_
  refine aw_loop (fun (gk : Nat) (fr : AFr) (G : AHeap) => ∃ get : Nat → Value, fr = ⟨27, get⟩ ∧ (∃ i : Nat, i ≤ out.length ∧ gk = out.length - i ∧ G = H ∧ get 0 = v ∧ get 1 = u ∧ get 5 = .int .i64 i)) (out.length) ⟨_, rfl, ?_⟩ ?_
  · exact ⟨0, Nat.zero_le _, rfl, rfl, rfl, rfl, rfl⟩
  · rintro gk fr G ⟨get, rfl, i, hi, rfl, rfl, g0, g1, g5⟩
    refine aw_slot (d := 0) (v := v) (by first | assumption | rfl) ?_
    refine aw_slot (d := 1) (v := u) (by first | assumption | rfl) ?_
    refine aw_slot (d := 5) (v := .int .i64 i) (by first | assumption | rfl) ?_
    refine aw_seq ?_
    refine aw_seq ?_
    refine aw_region ?_
    refine al_opd rfl rfl rfl (ao_mv (v := .int _ _) rfl) ?_
    first | refine al_opd rfl rfl rfl (ao_mv (v := .slice _ _ _) rfl) ?_ | refine al_opd rfl rfl rfl (ao_mv (v := v) rfl) ?_ | refine al_opd rfl rfl rfl (ao_mv (v := u) rfl) ?_ | refine al_opd rfl rfl rfl (ao_mv (v := x) rfl) ?_ | refine al_opd rfl rfl rfl (ao_mv (v := y) rfl) ?_
    first | refine al_opd rfl rfl rfl (ao_lenS Tryd.underlying34 (by rfl)) ?_ | refine al_opd rfl rfl rfl (ao_lenN Tryd.underlying34 (by rfl)) ?_ | refine al_opd rfl rfl rfl (ao_lenV Tryd.underlying34 rfl hs1) ?_ | refine al_opd rfl rfl rfl (ao_lenV Tryd.underlying34 rfl hs2) ?_
    refine al_opd rfl rfl rfl (ao_lss rfl rfl) ?_
    refine al_nilT ?_
    refine aw_cond rfl (fun h2_ => ?_) (fun h2_ => ?_)
    · try simp only [nrm] at h2_
      obtain ⟨x, hx⟩ := get_lt (show i < vs.length by omega)
      obtain ⟨y, hy⟩ := get_lt (show i < us.length by omega)
      obtain ⟨p, hp⟩ := get_lt (show i < out.length by omega)
      have hpl := hle p (List.mem_of_getElem? hp)
      refine aw_skipT ?_
      refine aw_seq ?_
      refine aw_block ?_
      refine aw_seq ?_
      refine aw_draw (m := 10) mo (by kernel_rfl) rfl (fun _ _ _ h => h) ?_
      first | refine dw_opd rfl rfl rfl (ao_mv (v := .slice _ _ _) rfl) ?_ | refine dw_opd rfl rfl rfl (ao_mv (v := v) rfl) ?_ | refine dw_opd rfl rfl rfl (ao_mv (v := u) rfl) ?_ | refine dw_opd rfl rfl rfl (ao_mv (v := x) rfl) ?_ | refine dw_opd rfl rfl rfl (ao_mv (v := y) rfl) ?_
      refine dw_opd rfl rfl rfl (ao_mv (v := .int _ _) rfl) ?_
      first | refine dw_opd rfl rfl rfl (ao_indexAddrS Tryd.underlying34 Tryd.sizeOf37 rfl rfl (by exact IXp) (by exact IXp)) ?_ | refine dw_opd rfl rfl rfl (ao_indexV Tryd.underlying34 Tryd.sizeOf37 rfl rfl hs1 (by exact IXp) (by exact IXp)) ?_ | refine dw_opd rfl rfl rfl (ao_indexV Tryd.underlying34 Tryd.sizeOf37 rfl rfl hs2 (by exact IXp) (by exact IXp)) ?_
      refine dw_opd rfl rfl rfl (ao_loadV (j := 0) (u := x) Tryd.isAgg37 hs1 rfl rfl hx rfl) ?_
      first | refine dw_opd rfl rfl rfl (ao_mv (v := .slice _ _ _) rfl) ?_ | refine dw_opd rfl rfl rfl (ao_mv (v := v) rfl) ?_ | refine dw_opd rfl rfl rfl (ao_mv (v := u) rfl) ?_ | refine dw_opd rfl rfl rfl (ao_mv (v := x) rfl) ?_ | refine dw_opd rfl rfl rfl (ao_mv (v := y) rfl) ?_
      refine dw_opd rfl rfl rfl (ao_mv (v := .int _ _) rfl) ?_
      first | refine dw_opd rfl rfl rfl (ao_indexAddrS Tryd.underlying34 Tryd.sizeOf37 rfl rfl (by exact IXp) (by exact IXp)) ?_ | refine dw_opd rfl rfl rfl (ao_indexV Tryd.underlying34 Tryd.sizeOf37 rfl rfl hs1 (by exact IXp) (by exact IXp)) ?_ | refine dw_opd rfl rfl rfl (ao_indexV Tryd.underlying34 Tryd.sizeOf37 rfl rfl hs2 (by exact IXp) (by exact IXp)) ?_
      refine dw_opd rfl rfl rfl (ao_loadV (j := 0) (u := y) Tryd.isAgg37 hs2 rfl rfl hy rfl) ?_
      refine dw_opd rfl rfl rfl (ao_calld (ACd.val (specSameSpots_c (l := p) (m := p) (he1 i x p hx hp) (he2 i y p hy hp) (by omega)) (congrArg Value.bool (decide_eq_true rfl))) Tryd.call20 rfl rfl) ?_
      refine dw_opd rfl rfl rfl (ao_not rfl) ?_
      refine dw_end ?_
      refine al_nilT ?_
      refine aw_cond rfl (fun h3_ => ?_) (fun h3_ => ?_)
      · try simp only [nrm] at h3_
        first | done | omega | (exfalso; revert h3_; simp; (first | done | omega))
      try simp only [nrm] at h3_
      refine aw_skipB ?_
      refine thenA_n ?_
      refine aw_region ?_
      refine al_opd rfl rfl rfl (ao_mv (v := .int _ _) rfl) ?_
      first | refine al_opd rfl rfl rfl ((ao_add rfl rfl).val (nw_i64 BDp BDp)) ?_ | refine al_opd rfl rfl rfl (ao_add rfl rfl) ?_
      refine al_opd rfl rfl rfl (ao_as (v := .int _ _) rfl) ?_
      refine al_nilT ?_
      exact ⟨_, by omega, _, rfl, i + 1, by omega, rfl, rfl, rfl, rfl, by rfl⟩
    · try simp only [nrm] at h2_
      refine aw_exit ?_
      refine thenA_x ?_
      refine thenA_x ?_
      refine blockA_hit ?_
      refine thenA_n ?_
      refine aw_seq ?_
      refine aw_region ?_
      refine al_opd rfl rfl rfl (ao_as (v := .bool _) rfl) ?_
      refine al_nilT ?_
      refine aw_ret ?_
      refine ends1 rfl (rv_tmp (v := .bool _) rfl) ?_
      exact ⟨by first | rfl | (simp [*]; (first | done | fail)), by exact SMp⟩

-- spec.A2HasSpot
theorem a2has_c {v : Value} {l : List Spot} {x : Spot} {H : AHeap} (hv : Sl H spot 2 v l) (hl : l.length ≤ 1000) : ACd Tryd.prog 26 [v, .agg #[.int .i8 x.x, .int .i8 x.y]] H (.bool (decide (x ∈ l))) (H) := by
  refine ac_gc0 (fun β => VR.plainT β (by first | rfl | simp [plainT, plainV, plain1])) (ac_body Tryd.func26 rfl Tryd.ntmps26 rfl ?_)
  refine aw_seq ?_
  refine aw_region ?_
  refine al_opd rfl rfl rfl (ao_boxa (by rfl)) ?_
  refine al_opd rfl rfl rfl (ao_as (v := .bool _) rfl) ?_
  refine al_nilT ?_
  refine aw_seq ?_
  refine aw_region ?_
  first | refine al_opd rfl rfl rfl (ao_mv (v := .slice _ _ _) rfl) ?_ | refine al_opd rfl rfl rfl (ao_mv (v := v) rfl) ?_
  refine al_opd rfl rfl rfl (ao_loada Tryd.isAgg48 Tryd.sizeOf48 rfl (by exact HLp) (by rfl) (by exact RFp)) ?_
  refine al_opd rfl rfl rfl (ao_calld (l01Has_c (l := l) (x := x) (hv.mono (by exact SMp)) hl) Tryd.call59 rfl rfl) ?_
  refine al_opd rfl rfl rfl (ao_as (v := .bool _) rfl) ?_
  refine al_nilT ?_
  refine aw_ret ?_
  refine ends1 rfl (rv_tmp (v := .bool _) rfl) ?_
  exact ⟨by first | rfl | (simp [*]; (first | done | fail)), by exact SMp⟩

end Go.Proofs.YtmmmjdbknepjgaaDoor
