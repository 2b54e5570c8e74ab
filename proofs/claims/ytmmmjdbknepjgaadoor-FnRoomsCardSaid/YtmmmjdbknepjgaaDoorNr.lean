/- Contracts of the program's functions over abstract heaps. -/
import Derived.Test.YtmmmjdbknepjgaaDoorBfs7
import Derived.Test.YtmmmjdbknepjgaaDoorRm
import Derived.Test.YtmmmjdbknepjgaaDoorFn
import Derived.Test.YtmmmjdbknepjgaaDoorFr
import Derived.Test.YtmmmjdbknepjgaaDoorSt
import Derived.Test.YtmmmjdbknepjgaaDoorSt2
namespace Go.Proofs.YtmmmjdbknepjgaaDoor
open Go Go.AW Go.Proofs
set_option linter.unusedVariables false
set_option linter.unusedSimpArgs false
set_option maxRecDepth 100000
set_option maxHeartbeats 2000000

-- spec.l01Near
theorem l01Near_c {r : Room} {s : Spot} {k : Int} {pb0 : Nat} {H : AHeap} (hp0 : H.blk pb0 = some (.cells (roomC r) 1)) (hr : okRoom r) (hw : wfRoom r) (hs : wfSpot s) (ha : isFree r s) : ACd Tryd.prog 68 [.pointer (some ⟨pb0, 0, none⟩), .agg #[.int .i8 s.x, .int .i8 s.y], .int .i64 k] H (.slice (some ⟨H.next, 0, none⟩) (nearL r s k).length ((nearL r s k).length + 1)) (H.push (.cells (fl spot (nearL r s k)) 2)) := by
  have hltp := AHeap.lt hp0
  have hfl : (freeL r).length ≤ 100 := filter_len r (freeB r) hr.2.1 hr.2.2.2.1
  have hnl : (nearL r s k).length ≤ 100 := filter_len r (nearB r s k) hr.2.1 hr.2.2.2.1
  refine ac_gcs (vrl_fl spot_plain _) (ac_body Tryd.func68 rfl Tryd.ntmps68 rfl ?_)
  refine aw_seq ?_
  refine aw_region ?_
  refine al_opd rfl rfl rfl (ao_boxa (by rfl)) ?_
  refine al_opd rfl rfl rfl (ao_as (v := .slice _ _ _) rfl) ?_
  refine al_nilT ?_
  refine aw_seq ?_
  refine aw_region ?_
  refine al_opd rfl rfl rfl (ao_mv (v := .pointer _) rfl) ?_
  first | refine al_opd rfl rfl rfl (ao_loada Tryd.isAgg48 Tryd.sizeOf48 rfl (by exact HLp) (by rfl) (by first | rfl | exact grid_at hcx | (simp; (first | done | fail)))) ?_ | refine al_opd rfl rfl rfl (ao_loadsV (A := #[.int _ _, .int _ _]) Tryd.isAgg48 Tryd.sizeOf48 hsf rfl hx rfl (by decide)) ?_
  refine al_opd rfl rfl rfl (ao_calld (l01Steps_c (r := r) (s := s) (by exact HLp) hr hw hs ha) Tryd.call79 rfl rfl) ?_
  refine al_opd rfl rfl rfl (ao_alloca (zv100) (by rfl)) ?_
  first | refine al_opd rfl rfl rfl ((ao_storeL Tryd.sizeOf100 (by rfl) (by rfl) (by exact HLp) (by first | rfl | exact grid_at hcx | (simp; (first | done | fail))) (by first | rfl | exact grid_at hcx | (simp; (first | done | fail))) (by first | rfl | exact grid_at hcx | (simp; (first | done | fail)))).to (SetR.eq (by exact SRp))) ?_ | refine al_opd rfl rfl rfl ((ao_storeP (ds := [.int _ _, .int _ _, .int _ _, .int _ _, .int _ _, .int _ _, .int _ _, .int _ _, .int _ _, .int _ _, .int _ _, .int _ _, .int _ _, .int _ _, .int _ _, .int _ _, .int _ _, .int _ _, .int _ _, .int _ _, .int _ _, .int _ _, .int _ _, .int _ _, .int _ _, .int _ _, .int _ _, .int _ _, .int _ _, .int _ _, .int _ _, .int _ _, .int _ _, .int _ _, .int _ _, .int _ _, .int _ _, .int _ _, .int _ _, .int _ _, .int _ _, .int _ _, .int _ _, .int _ _, .int _ _, .int _ _, .int _ _, .int _ _, .int _ _, .int _ _, .int _ _, .int _ _, .int _ _, .int _ _, .int _ _, .int _ _, .int _ _, .int _ _, .int _ _, .int _ _, .int _ _, .int _ _, .int _ _, .int _ _, .int _ _, .int _ _, .int _ _, .int _ _, .int _ _, .int _ _, .int _ _, .int _ _, .int _ _, .int _ _, .int _ _, .int _ _, .int _ _, .int _ _, .int _ _, .int _ _, .int _ _, .int _ _, .int _ _, .int _ _, .int _ _, .int _ _, .int _ _, .int _ _, .int _ _, .int _ _, .int _ _, .int _ _, .int _ _, .int _ _, .int _ _, .int _ _, .int _ _, .int _ _, .int _ _, .int _ _]) Tryd.sizeOf100 (by rfl) (by rfl) (by exact HLp) (by first | rfl | exact grid_at hcx | (simp; (first | done | fail))) (by first | rfl | exact grid_at hcx | (simp; (first | done | fail))) (by (rw [gridC_len]; omega))).to (SetR.eq (by exact SRp))) ?_
  refine al_nilT ?_
  refine aw_seq ?_
  refine aw_region ?_
  refine al_opd rfl rfl rfl (ao_lit0 Tryd.underlying37 Tryd.sizeOf48 Tryd.zeroValue48 (by rfl) (by rfl) rfl) ?_
  refine al_opd rfl rfl rfl (ao_as (v := .slice _ _ _) rfl) ?_
  refine al_nilT ?_
  refine aw_seq ?_
  refine aw_region ?_
  refine al_opd rfl rfl rfl (ao_mv (v := .pointer _) rfl) ?_
  refine al_opd rfl rfl rfl (ao_calld (l01All_c (r := r) (by exact HLp) hr hw) Tryd.call50 rfl rfl) ?_
  refine al_opd rfl rfl rfl (ao_as (v := .slice _ _ _) rfl) ?_
  refine al_nilT ?_
  refine aw_seq ?_
  refine aw_seq ?_
  refine aw_region ?_
  refine al_opd rfl rfl rfl (ao_as (v := .int _ _) rfl) ?_
  refine al_nilT ?_
  refine aw_block ?_
  refine aw_loop (fun (gk : Nat) (fr : AFr) (G : AHeap) => ∃ get : Nat → Value, fr = ⟨46, get⟩ ∧ (∃ (i qb n c : Nat), i ≤ (freeL r).length ∧ gk = (freeL r).length - i ∧ Same H.next H G ∧ G.blk H.next = some (.cells [.int .i8 s.x, .int .i8 s.y] 1) ∧ G.blk (H.next + 1) = some (.cells (gridC (farF (found r s))) 1) ∧ G.blk (H.next + 3) = some (.cells (fl spot (freeL r)) 2) ∧ H.next + 4 ≤ G.next ∧ H.next + 2 ≤ qb ∧ qb < G.next ∧ qb ≠ H.next + 3 ∧ G.blk qb = some (.cells (fl spot (((freeL r).take i).filter (nearB r s k))) 2) ∧ n = (((freeL r).take i).filter (nearB r s k)).length ∧ n ≤ c ∧ get 0 = .pointer (some ⟨pb0, 0, none⟩) ∧ get 2 = .int .i64 k ∧ get 4 = .pointer (some ⟨H.next, 0, none⟩) ∧ get 7 = .pointer (some ⟨H.next + 1, 0, none⟩) ∧ get 8 = .slice (some ⟨qb, 0, none⟩) n c ∧ get 9 = .slice (some ⟨H.next + 3, 0, none⟩) (freeL r).length ((freeL r).length + 1) ∧ get 10 = .int .i64 i)) ((freeL r).length) ⟨_, rfl, ?_⟩ ?_
  · refine ⟨0, _, 0, _, Nat.zero_le _, rfl, by exact SMp, by exact HLp, by exact HLp, by exact HLp, ?_, ?_, ?_, ?_, by exact HLp, rfl, Nat.le_refl _, rfl, rfl, rfl, rfl, rfl, rfl, rfl⟩ <;> exact LNp
  · rintro gk fr G ⟨get, rfl, i, qb, n, c, hi, rfl, hG, hb0, hb1, hbf, hnx, hqb, hlt, hne, hkb, hn, hc, g0, g2, g4, g7, g8, g9, g10⟩
    have hsf : Sl G spot 2 (.slice (some ⟨H.next + 3, 0, none⟩) (freeL r).length ((freeL r).length + 1)) (freeL r) := Sl.full spot_len hbf rfl rfl rfl
    have hfk := ftake_len (freeL r) (nearB r s k) i
    refine aw_slot (d := 0) (v := .pointer (some ⟨pb0, 0, none⟩)) (by first | assumption | rfl) ?_
    refine aw_slot (d := 2) (v := .int .i64 k) (by first | assumption | rfl) ?_
    refine aw_slot (d := 4) (v := .pointer (some ⟨H.next, 0, none⟩)) (by first | assumption | rfl) ?_
    refine aw_slot (d := 7) (v := .pointer (some ⟨H.next + 1, 0, none⟩)) (by first | assumption | rfl) ?_
    refine aw_slot (d := 8) (v := .slice (some ⟨qb, 0, none⟩) n c) (by first | assumption | rfl) ?_
    refine aw_slot (d := 9) (v := .slice (some ⟨H.next + 3, 0, none⟩) (freeL r).length ((freeL r).length + 1)) (by first | assumption | rfl) ?_
    refine aw_slot (d := 10) (v := .int .i64 i) (by first | assumption | rfl) ?_
    refine aw_seq ?_
    refine aw_seq ?_
    refine aw_region ?_
    refine al_opd rfl rfl rfl (ao_mv (v := .int _ _) rfl) ?_
    refine al_opd rfl rfl rfl (ao_mv (v := .slice _ _ _) rfl) ?_
    first | refine al_opd rfl rfl rfl (ao_lenS Tryd.underlying37 (by rfl)) ?_ | refine al_opd rfl rfl rfl (ao_lenN Tryd.underlying37 (by rfl)) ?_ | refine al_opd rfl rfl rfl (ao_lenV Tryd.underlying37 rfl hsf) ?_
    refine al_opd rfl rfl rfl (ao_lss rfl rfl) ?_
    refine al_nilT ?_
    refine aw_cond rfl (fun h1_ => ?_) (fun h1_ => ?_)
    · try simp only [nrm] at h1_
      obtain ⟨x, hx⟩ := get_lt (show i < (freeL r).length by omega)
      have hcx := cell10_of (free_at hx)
      have ⟨e1, e2, e3, e4⟩ := hcx
      refine aw_skipT ?_
      refine aw_seq ?_
      refine aw_block ?_
      refine aw_seq ?_
      refine aw_draw (m := 15) mo (by kernel_rfl) rfl (fun _ _ _ h => h) ?_
      refine dw_opd rfl rfl rfl (ao_mv (v := .slice _ _ _) rfl) ?_
      refine dw_opd rfl rfl rfl (ao_mv (v := .int _ _) rfl) ?_
      first | refine dw_opd rfl rfl rfl (ao_indexAddrS Tryd.underlying37 Tryd.sizeOf48 rfl rfl (by exact IXp) (by exact IXp)) ?_ | refine dw_opd rfl rfl rfl (ao_indexV Tryd.underlying37 Tryd.sizeOf48 rfl rfl hsf (by exact IXp) (by exact IXp)) ?_
      refine dw_opd rfl rfl rfl (ao_fieldAddr fo_48_1 rfl) ?_
      first | refine dw_opd rfl rfl rfl (ao_load (v := .int _ _) Tryd.isAgg24 (by rfl) (by exact HLp) (by rfl) (by first | rfl | exact grid_at hcx | (simp; (first | done | fail)))) ?_ | refine dw_opd rfl rfl rfl (ao_loadV (j := 0) (u := .int _ _) Tryd.isAgg24 hsf rfl rfl hx rfl) ?_ | refine dw_opd rfl rfl rfl (ao_loadV (j := 1) (u := .int _ _) Tryd.isAgg24 hsf rfl rfl hx rfl) ?_
      refine dw_opd rfl rfl rfl (ao_mv (v := .slice _ _ _) rfl) ?_
      refine dw_opd rfl rfl rfl (ao_mv (v := .int _ _) rfl) ?_
      first | refine dw_opd rfl rfl rfl (ao_indexAddrS Tryd.underlying37 Tryd.sizeOf48 rfl rfl (by exact IXp) (by exact IXp)) ?_ | refine dw_opd rfl rfl rfl (ao_indexV Tryd.underlying37 Tryd.sizeOf48 rfl rfl hsf (by exact IXp) (by exact IXp)) ?_
      refine dw_opd rfl rfl rfl (ao_fieldAddr fo_48_0 rfl) ?_
      first | refine dw_opd rfl rfl rfl (ao_load (v := .int _ _) Tryd.isAgg24 (by rfl) (by exact HLp) (by rfl) (by first | rfl | exact grid_at hcx | (simp; (first | done | fail)))) ?_ | refine dw_opd rfl rfl rfl (ao_loadV (j := 0) (u := .int _ _) Tryd.isAgg24 hsf rfl rfl hx rfl) ?_ | refine dw_opd rfl rfl rfl (ao_loadV (j := 1) (u := .int _ _) Tryd.isAgg24 hsf rfl rfl hx rfl) ?_
      refine dw_opd rfl rfl rfl (ao_indexAddrA Tryd.underlying100 Tryd.sizeOf99 rfl rfl (by exact IXp) (by exact IXp)) ?_
      refine dw_opd rfl rfl rfl (ao_indexAddrA Tryd.underlying99 Tryd.sizeOf2 rfl rfl (by exact IXp) (by exact IXp)) ?_
      first | refine dw_opd rfl rfl rfl (ao_load (v := .int _ _) Tryd.isAgg2 (by rfl) (by exact HLp) (by rfl) (by first | rfl | exact grid_at hcx | (simp; (first | done | fail)))) ?_ | refine dw_opd rfl rfl rfl (ao_loadV (j := 0) (u := .int _ _) Tryd.isAgg2 hsf rfl rfl hx rfl) ?_ | refine dw_opd rfl rfl rfl (ao_loadV (j := 1) (u := .int _ _) Tryd.isAgg2 hsf rfl rfl hx rfl) ?_
      refine dw_opd rfl rfl rfl (ao_mv (v := .int _ _) rfl) ?_
      refine dw_opd rfl rfl rfl (ao_calld (ACd.val l00In_c (congrArg Value.bool (near_far k ha hcx))) Tryd.call66 rfl rfl) ?_
      refine dw_end ?_
      refine al_nilT ?_
      refine aw_cond rfl (fun h2_ => ?_) (fun h2_ => ?_)
      · try simp only [nrm] at h2_
        refine aw_region ?_
        refine al_opd rfl rfl rfl (ao_mv (v := .slice _ _ _) rfl) ?_
        refine al_opd rfl rfl rfl (ao_mv (v := .slice _ _ _) rfl) ?_
        refine al_opd rfl rfl rfl (ao_mv (v := .int _ _) rfl) ?_
        first | refine al_opd rfl rfl rfl (ao_indexAddrS Tryd.underlying37 Tryd.sizeOf48 rfl rfl (by exact IXp) (by exact IXp)) ?_ | refine al_opd rfl rfl rfl (ao_indexV Tryd.underlying37 Tryd.sizeOf48 rfl rfl hsf (by exact IXp) (by exact IXp)) ?_
        first | refine al_opd rfl rfl rfl (ao_loada Tryd.isAgg48 Tryd.sizeOf48 rfl (by exact HLp) (by rfl) (by first | rfl | exact grid_at hcx | (simp; (first | done | fail)))) ?_ | refine al_opd rfl rfl rfl (ao_loadsV (A := #[.int _ _, .int _ _]) Tryd.isAgg48 Tryd.sizeOf48 hsf rfl hx rfl (by decide)) ?_
        refine al_opd rfl rfl rfl (ao_lit1 (v := .agg _) Tryd.underlying37 Tryd.sizeOf48 Tryd.zeroValue48 (by rfl) (by rfl) rfl rfl (by rfl) (by first | rfl | exact grid_at hcx | (simp; (first | done | fail)))) ?_
        refine al_opd rfl rfl rfl (ao_appC Tryd.underlying37 ⟨_, Tryd.underlying37⟩ elem48 (by rfl) (by rfl) (by exact HLp) (by (rw [fl_len spot_len, ← hn]; omega)) (by exact SCp) (by first | rfl | simp [isOne]) (by exact BDp) (by exact BDp)) ?_
        refine al_opd rfl rfl rfl (ao_as (v := .slice _ _ _) rfl) ?_
        refine al_nilB ?_
        refine thenA_n ?_
        refine aw_region ?_
        refine al_opd rfl rfl rfl (ao_mv (v := .int _ _) rfl) ?_
        first | refine al_opd rfl rfl rfl ((ao_add rfl rfl).val (nw_i64 BDp BDp)) ?_ | refine al_opd rfl rfl rfl (ao_add rfl rfl) ?_
        refine al_opd rfl rfl rfl (ao_as (v := .int _ _) rfl) ?_
        refine al_nilT ?_
        refine ⟨_, ?_, _, rfl, i + 1, _, n + 1, _, by omega, rfl, by exact SMp, by exact HLp, by exact HLp, by exact HLp, ?_, ?_, ?_, ?_, by rw [ftake_yes hx h2_, fl_snoc]; exact (by exact HLp), by rw [ftake_yes hx h2_, List.length_append, ← hn]; rfl, Nat.le_succ _, rfl, rfl, rfl, rfl, rfl, rfl, by rfl⟩
        · omega
        · exact LNp
        · exact LNp
        · exact LNp
        · exact LNp
      · try simp only [nrm] at h2_
        refine aw_skipB ?_
        refine thenA_n ?_
        refine aw_region ?_
        refine al_opd rfl rfl rfl (ao_mv (v := .int _ _) rfl) ?_
        first | refine al_opd rfl rfl rfl ((ao_add rfl rfl).val (nw_i64 BDp BDp)) ?_ | refine al_opd rfl rfl rfl (ao_add rfl rfl) ?_
        refine al_opd rfl rfl rfl (ao_as (v := .int _ _) rfl) ?_
        refine al_nilT ?_
        refine ⟨_, ?_, _, rfl, i + 1, qb, n, c, by omega, rfl, by exact SMp, by exact HLp, by exact HLp, by exact HLp, ?_, hqb, ?_, hne, by rw [ftake_no hx (by simpa using h2_)]; exact hkb, by rw [ftake_no hx (by simpa using h2_)]; exact hn, hc, rfl, rfl, rfl, rfl, rfl, rfl, by rfl⟩
        · omega
        · exact LNp
        · exact LNp
    · try simp only [nrm] at h1_
      have hil : (freeL r).length ≤ i := by omega
      rw [List.take_of_length_le hil, nearL_free k ha] at hkb hn
      refine aw_exit ?_
      refine thenA_x ?_
      refine thenA_x ?_
      refine blockA_hit ?_
      refine thenA_n ?_
      refine aw_seq ?_
      refine aw_region ?_
      refine al_opd rfl rfl rfl (ao_mv (v := .slice _ _ _) rfl) ?_
      refine al_opd rfl rfl rfl (ao_as (v := .slice _ _ _) rfl) ?_
      refine al_nilT ?_
      refine aw_ret ?_
      refine ends1 rfl (rv_tmp (v := .slice _ _ _) rfl) ?_
      subst hn
      exact ⟨hG, qb, by omega, hkb, fun ρ h => vr_sl h (by omega) (by omega)⟩

-- (impl.Room).near$1
theorem near1_c {r : Room} {a s : Spot} {k : Int} {b1 b2 mb : Nat} {H : AHeap} (h1 : H.blk b1 = some (.cells [.map (some mb)] 1)) (h2 : H.blk b2 = some (.cells [.int .i64 k] 1)) (hm : H.blk mb = some (mapB (found r a))) : ACd Tryd.prog 74 [.agg #[.int .i8 s.x, .int .i8 s.y], .pointer (some ⟨b1, 0, none⟩), .pointer (some ⟨b2, 0, none⟩)] H (.bool (nearB r a k s)) (H) := by
  obtain ⟨lv, ok, hlk⟩ := look_ex (found r a) s
  have hnv := near_val (k := k) hlk
  refine ac_gc0 (fun β => VR.plainT β (by first | rfl | simp [plainT, plainV, plain1])) (ac_body Tryd.func74 rfl Tryd.ntmps74 rfl ?_)
  refine aw_seq ?_
  refine aw_region ?_
  refine al_opd rfl rfl rfl (ao_boxa (by rfl)) ?_
  refine al_opd rfl rfl rfl (ao_as (v := .bool _) rfl) ?_
  refine al_nilT ?_
  refine aw_seq ?_
  refine aw_region ?_
  refine al_opd rfl rfl rfl (ao_load (v := .map _) Tryd.isAgg93 (by rfl) (by exact HLp) (by rfl) (by exact RFp)) ?_
  refine al_opd rfl rfl rfl (ao_loada Tryd.isAgg48 Tryd.sizeOf48 rfl (by exact HLp) (by rfl) (by exact RFp)) ?_
  refine al_opd rfl rfl rfl (ao_look2 (m := found r a) (k := s) (ke := spV) (ve := ivV) Tryd.underlying93 keySpot_c (fun _ => rfl) Tryd.zeroValue2 (by rfl) (by rfl) (by rfl) (by exact HLp) hlk) ?_
  refine al_opd rfl rfl rfl (ao_mv (v := .tuple _) rfl) ?_
  refine al_opd rfl rfl rfl (ao_extract (v := .int _ _) rfl rfl) ?_
  refine al_opd rfl rfl rfl (ao_extract (v := .bool _) rfl rfl) ?_
  refine al_opd rfl rfl rfl (ao_as (v := .int _ _) rfl) ?_
  refine al_opd rfl rfl rfl (ao_as (v := .bool _) rfl) ?_
  refine al_nilT ?_
  refine aw_seq ?_
  refine aw_region ?_
  refine al_opd rfl rfl rfl (ao_mv (v := .bool _) rfl) ?_
  refine al_opd rfl rfl rfl (ao_mv (v := .bool _) rfl) ?_
  refine al_cases (d := 14) rfl (fun h1_ => ?_) (fun h1_ => ?_)
  · try simp only [nrm] at h1_
    refine al_gyes rfl rfl rfl rfl rfl (ao_mv (v := .int _ _) rfl) ?_
    refine al_gyes rfl rfl rfl rfl rfl (ao_load (v := .int _ _) Tryd.isAgg2 (by rfl) (by exact HLp) (by rfl) (by exact RFp)) ?_
    refine al_gyes rfl rfl rfl rfl rfl (ao_leq rfl rfl) ?_
    refine al_opd rfl rfl rfl (ao_pickT rfl (v := .bool _) rfl) ?_
    refine al_opd rfl rfl rfl (ao_as (v := .bool _) rfl) ?_
    refine al_nilT ?_
    refine aw_ret ?_
    refine ends1 rfl (rv_tmp (v := .bool _) rfl) ?_
    exact ⟨by rw [hnv, h1_]; rfl, by exact SMp⟩
  · try simp only [nrm] at h1_
    refine al_gno rfl rfl rfl rfl rfl ?_
    refine al_gno rfl rfl rfl rfl rfl ?_
    refine al_gno rfl rfl rfl rfl rfl ?_
    refine al_opd rfl rfl rfl (ao_pickF rfl (v := .bool _) rfl) ?_
    refine al_opd rfl rfl rfl (ao_as (v := .bool _) rfl) ?_
    refine al_nilT ?_
    refine aw_ret ?_
    refine ends1 rfl (rv_tmp (v := .bool _) rfl) ?_
    exact ⟨by rw [hnv, h1_]; rfl, by exact SMp⟩

-- (impl.Room).near
theorem implNear_c {r : Room} {s : Spot} {k : Int} {H : AHeap} (hr : okRoom r) (hw : wfRoom r) (hs : wfSpot s) (ha : isFree r s) : ACd Tryd.prog 57 [.agg (roomC r).toArray, .agg #[.int .i8 s.x, .int .i8 s.y], .int .i64 k] H (.slice (some ⟨H.next, 0, none⟩) (nearL r s k).length ((nearL r s k).length + 1)) (H.push (.cells (fl spot (nearL r s k)) 2)) := by
  have ⟨r1, r2, r3, r4, r5⟩ := hr
  have hnl : (nearL r s k).length ≤ 100 := filter_len r (nearB r s k) hr.2.1 hr.2.2.2.1
  refine ac_gcs (vrl_fl spot_plain _) (ac_body Tryd.func57 rfl Tryd.ntmps57 rfl ?_)
  refine aw_seq ?_
  refine aw_region ?_
  refine al_opd rfl rfl rfl (ao_boxa (by rfl)) ?_
  refine al_opd rfl rfl rfl (ao_boxa (by rfl)) ?_
  refine al_opd rfl rfl rfl (ao_box1 (v := .int _ _) (by rfl) (by rfl)) ?_
  refine al_opd rfl rfl rfl (ao_as (v := .slice _ _ _) rfl) ?_
  refine al_nilT ?_
  refine aw_seq ?_
  refine aw_region ?_
  refine al_opd rfl rfl rfl (ao_loada Tryd.isAgg28 Tryd.sizeOf28 rfl (by exact HLp) (by rfl) (by exact RFp)) ?_
  refine al_opd rfl rfl rfl (ao_loada Tryd.isAgg48 Tryd.sizeOf48 rfl (by exact HLp) (by rfl) (by exact RFp)) ?_
  refine al_opd rfl rfl rfl (ao_calld (implSteps_c (r := r) (s := s) hw hs ha) Tryd.call73 rfl rfl) ?_
  refine al_opd rfl rfl rfl (ao_alloc1 Tryd.zeroValue93 rfl rfl) ?_
  refine al_opd rfl rfl rfl ((ao_store1 (v := .map _) Tryd.sizeOf93 (by rfl) (by rfl) (by exact HLp) (by rfl) (by exact LTp)).to (SetR.eq (by exact SRp))) ?_
  refine al_nilT ?_
  refine aw_seq ?_
  refine aw_region ?_
  refine al_opd rfl rfl rfl (ao_loada Tryd.isAgg28 Tryd.sizeOf28 rfl (by exact HLp) (by rfl) (by exact RFp)) ?_
  refine al_opd rfl rfl rfl (ao_makeFunc rfl rfl) ?_
  refine al_opd rfl rfl rfl (ao_calld (cells_c (fnum := 74) (fs := #[]) (cs := #[.pointer (some ⟨H.next + 4, 0, none⟩), .pointer (some ⟨H.next + 2, 0, none⟩)]) (r := r) (p := nearB r s k) Tryd.call74 (fun G x y hs hx hy => near1_c (r := r) (a := s) (s := ⟨(x : Int), (y : Int)⟩) (k := k) (mb := H.next + 3) ((hs _ (by exact LNp)).trans (by exact HLp)) ((hs _ (by exact LNp)).trans (by exact HLp)) ((hs _ (by exact LNp)).trans (by exact HLp))) (by omega)) Tryd.call42 rfl rfl) ?_
  refine al_opd rfl rfl rfl (ao_as (v := .slice _ _ _) rfl) ?_
  refine al_nilT ?_
  refine aw_ret ?_
  refine ends1 rfl (rv_tmp (v := .slice _ _ _) rfl) ?_
  exact ⟨by exact SMp, _, by exact LEp, by exact HLp, fun ρ h => vr_sl h (by unfold nearL; omega) (by unfold nearL; omega)⟩

-- impl.PartOf
theorem implPart1_c {r : Room} {s : Spot} {H : AHeap} (hw : wfRoom r) (hs : wfSpot s) (hst : stoodC r s true 0) : ACd Tryd.prog 21 [.agg (roomC r).toArray, .agg #[.int .i8 s.x, .int .i8 s.y]] H (.tuple #[.slice (some ⟨H.next, 0, none⟩) (nearL r s 100).length ((nearL r s 100).length + 1), .int .i64 0]) (H.push (.cells (fl spot (nearL r s 100)) 2)) := by
  have ⟨hr, hcl, hf, hfr⟩ := stood_ok hst
  have hnl : (nearL r s 100).length ≤ 100 := filter_len r (nearB r s 100) hr.2.1 hr.2.2.2.1
  obtain ⟨c1, hc1⟩ := exists_cellC r [s]
  obtain ⟨c3, hc3⟩ := exists_stateC r [s]
  refine ac_gcs (vrl_fl spot_plain _) (ac_body Tryd.func21 rfl Tryd.ntmps21 rfl ?_)
  refine aw_seq ?_
  refine aw_region ?_
  refine al_opd rfl rfl rfl (ao_boxa (by rfl)) ?_
  refine al_opd rfl rfl rfl (ao_boxa (by rfl)) ?_
  refine al_opd rfl rfl rfl (ao_as (v := .slice _ _ _) rfl) ?_
  refine al_opd rfl rfl rfl (ao_as (v := .int _ _) rfl) ?_
  refine al_nilT ?_
  refine aw_seq ?_
  refine aw_seq ?_
  refine aw_draw (m := 11) mo (by kernel_rfl) rfl (fun _ _ _ h => h) ?_
  refine dw_opd rfl rfl rfl (ao_loada Tryd.isAgg28 Tryd.sizeOf28 rfl (by exact HLp) (by rfl) (by exact RFp)) ?_
  refine dw_opd rfl rfl rfl (ao_loada Tryd.isAgg48 Tryd.sizeOf48 rfl (by exact HLp) (by rfl) (by exact RFp)) ?_
  refine dw_opn rfl rfl rfl (ao_lit1 (v := .agg _) Tryd.underlying37 Tryd.sizeOf48 Tryd.zeroValue48 (by rfl) (by rfl) rfl rfl (by rfl) (by exact RFp)) ?_
  refine dw_opd rfl rfl rfl (ao_calld (cellCode_c (r := r) (l := [s]) (c := c1) hw (fun i x h => by match i with | 0 => (simp at h; subst h; exact hs) | i + 1 => (simp at h)) (Sl.full spot_len (by exact HLp) rfl rfl rfl) (by simp) hc1) Tryd.call55 rfl rfl) ?_
  refine dw_opd rfl rfl rfl (ao_loada Tryd.isAgg28 Tryd.sizeOf28 rfl (by exact HLp) (by rfl) (by exact RFp)) ?_
  refine dw_opd rfl rfl rfl (ao_loada Tryd.isAgg48 Tryd.sizeOf48 rfl (by exact HLp) (by rfl) (by exact RFp)) ?_
  refine dw_opn rfl rfl rfl (ao_lit1 (v := .agg _) Tryd.underlying37 Tryd.sizeOf48 Tryd.zeroValue48 (by rfl) (by rfl) rfl rfl (by rfl) (by exact RFp)) ?_
  refine dw_opd rfl rfl rfl (ao_calld (stateCode_c (r := r) (l := [s]) (c := c3) hw (fun i x h => by match i with | 0 => (simp at h; subst h; exact hs) | i + 1 => (simp at h)) (Sl.full spot_len (by exact HLp) rfl rfl rfl) (by simp) hc3) Tryd.call56 rfl rfl) ?_
  refine dw_opn rfl rfl rfl (ao_buildSlice (A := #[.int .i64 c1, .int .i64 c3]) Tryd.underlying90 Tryd.sizeOf2 Tryd.zeroValue2 (by rfl) (by rfl) (by decide) (by decide) (by rfl) (by first | rfl | kernel_rfl)) ?_
  refine dw_opd rfl rfl rfl (ao_calld (ACd.val (firstOf_c (l := [c1, c3]) (Sl.full i64_len (by exact HLp) rfl rfl rfl) (by simp)) (congrArg (Value.int .i64) (stood_first2 hst hc1 hc3))) Tryd.call54 rfl rfl) ?_
  refine dw_opd rfl rfl rfl (ao_as (v := .int _ _) rfl) ?_
  refine dw_end ?_
  refine al_nilT ?_
  refine aw_seq ?_
  refine aw_region ?_
  refine al_opd rfl rfl rfl (ao_mv (v := .int _ _) rfl) ?_
  refine al_opd rfl rfl rfl (ao_neq rfl rfl) ?_
  refine al_nilT ?_
  refine aw_cond rfl (fun h1_ => ?_) (fun h1_ => ?_)
  · try simp only [nrm] at h1_
    first | done | omega | (exfalso; revert h1_; simp; (first | done | omega))
  try simp only [nrm] at h1_
  refine aw_skipT ?_
  refine aw_seq ?_
  refine aw_region ?_
  refine al_opd rfl rfl rfl (ao_loada Tryd.isAgg28 Tryd.sizeOf28 rfl (by exact HLp) (by rfl) (by exact RFp)) ?_
  refine al_opd rfl rfl rfl (ao_loada Tryd.isAgg48 Tryd.sizeOf48 rfl (by exact HLp) (by rfl) (by exact RFp)) ?_
  refine al_opd rfl rfl rfl (ao_calld (implNear_c (r := r) (s := s) (k := 100) hr hw hs hfr) Tryd.call57 rfl rfl) ?_
  refine al_opd rfl rfl rfl (ao_as (v := .slice _ _ _) rfl) ?_
  refine al_opd rfl rfl rfl (ao_as (v := .int _ _) rfl) ?_
  refine al_nilT ?_
  refine aw_ret ?_
  refine ends2 rfl (rv_tmp (v := .slice _ _ _) rfl) (rv_tmp (v := .int _ _) rfl) ?_
  exact ⟨by exact SMp, _, by exact LEp, by exact HLp, fun ρ h => vr_tup2 (vr_sl h (by omega) (by omega)) (.int _ _)⟩

end Go.Proofs.YtmmmjdbknepjgaaDoor
