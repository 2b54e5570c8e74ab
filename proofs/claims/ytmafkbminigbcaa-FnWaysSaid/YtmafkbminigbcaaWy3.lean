/- Contracts of the program's functions over abstract heaps. -/
import Derived.Test.YtmafkbminigbcaaWay
import Derived.Test.YtmafkbminigbcaaRy
import Derived.Test.YtmafkbminigbcaaSt2
import Derived.Test.YtmafkbminigbcaaSb
import Derived.Test.YtmafkbminigbcaaWy
namespace Go.Proofs.Ytmafkbminigbcaa
open Go Go.AW Go.Proofs
set_option linter.unusedVariables false
set_option linter.unusedSimpArgs false
set_option maxRecDepth 100000
set_option maxHeartbeats 2000000

-- spec.l01Way
theorem l01Way1_c {r : Room} {a b : Spot} {v : Int} {pb0 : Nat} {H : AHeap} (hp0 : H.blk pb0 = some (.cells (roomC r) 1)) (hr : okRoom r) (hw : wfRoom r) (hwa : wfSpot a) (hwb : wfSpot b) (hb : isFree r b) (hv : mget (found r b) a = some v) : ACd Try.prog 38 [.pointer (some ⟨pb0, 0, none⟩), .agg #[.int .i8 a.x, .int .i8 a.y], .agg #[.int .i8 b.x, .int .i8 b.y]] H (.slice (some ⟨H.next, 0, none⟩) (wayN r a b v.toNat).length ((wayN r a b v.toNat).length + 1)) (H.push (.cells (fl spot (wayN r a b v.toNat)) 2)) := by
  have hltp := AHeap.lt hp0
  have hvp := found_pos hb hv
  have hca := cell10_of (found_free hb hv)
  have ⟨c1, c2, c3, c4⟩ := hca
  have hfa := (farF_M r b hca).trans (farM_some hv)
  refine ac_gcs (vrl_fl spot_plain _) (ac_body Try.func38 rfl Try.ntmps38 rfl ?_)
  refine aw_seq ?_
  refine aw_region ?_
  refine al_opd rfl rfl rfl (ao_boxa (by rfl)) ?_
  refine al_opd rfl rfl rfl (ao_boxa (by rfl)) ?_
  refine al_opd rfl rfl rfl (ao_as (v := .slice _ _ _) rfl) ?_
  refine al_nilT ?_
  refine aw_seq ?_
  refine aw_region ?_
  refine al_opd rfl rfl rfl (ao_mv (v := .pointer _) rfl) ?_
  first | refine al_opd rfl rfl rfl (ao_loada Try.isAgg31 Try.sizeOf31 rfl (by exact HLp) (by rfl) (by first | rfl | exact grid_at hcx | exact grid_at hck | exact grid_at hca | (simp; (first | done | fail)))) ?_ | refine al_opd rfl rfl rfl (ao_loadsV (A := #[.int _ _, .int _ _]) Try.isAgg31 Try.sizeOf31 hsn rfl hx rfl (by decide)) ?_ | refine al_opd rfl rfl rfl (ao_loadsV (A := #[.int _ _, .int _ _]) Try.isAgg31 Try.sizeOf31 hsn2 rfl hx rfl (by decide)) ?_
  refine al_opd rfl rfl rfl (ao_calld (l01Steps_c (r := r) (s := b) (by exact HLp) hr hw hwb hb) Try.call32 rfl rfl) ?_
  refine al_opd rfl rfl rfl (ao_alloca (zv64) (by rfl)) ?_
  first | refine al_opd rfl rfl rfl ((ao_storeL Try.sizeOf64 (by rfl) (by rfl) (by exact HLp) (by first | rfl | exact grid_at hcx | exact grid_at hck | exact grid_at hca | (simp; (first | done | fail))) (by first | rfl | exact grid_at hcx | exact grid_at hck | exact grid_at hca | (simp; (first | done | fail))) (by first | rfl | exact grid_at hcx | exact grid_at hck | exact grid_at hca | (simp; (first | done | fail)))).to (SetR.eq (by exact SRp))) ?_ | refine al_opd rfl rfl rfl ((ao_storeP (ds := [.int _ _, .int _ _, .int _ _, .int _ _, .int _ _, .int _ _, .int _ _, .int _ _, .int _ _, .int _ _, .int _ _, .int _ _, .int _ _, .int _ _, .int _ _, .int _ _, .int _ _, .int _ _, .int _ _, .int _ _, .int _ _, .int _ _, .int _ _, .int _ _, .int _ _, .int _ _, .int _ _, .int _ _, .int _ _, .int _ _, .int _ _, .int _ _, .int _ _, .int _ _, .int _ _, .int _ _, .int _ _, .int _ _, .int _ _, .int _ _, .int _ _, .int _ _, .int _ _, .int _ _, .int _ _, .int _ _, .int _ _, .int _ _, .int _ _, .int _ _, .int _ _, .int _ _, .int _ _, .int _ _, .int _ _, .int _ _, .int _ _, .int _ _, .int _ _, .int _ _, .int _ _, .int _ _, .int _ _, .int _ _, .int _ _, .int _ _, .int _ _, .int _ _, .int _ _, .int _ _, .int _ _, .int _ _, .int _ _, .int _ _, .int _ _, .int _ _, .int _ _, .int _ _, .int _ _, .int _ _, .int _ _, .int _ _, .int _ _, .int _ _, .int _ _, .int _ _, .int _ _, .int _ _, .int _ _, .int _ _, .int _ _, .int _ _, .int _ _, .int _ _, .int _ _, .int _ _, .int _ _, .int _ _, .int _ _, .int _ _]) Try.sizeOf64 (by rfl) (by rfl) (by exact HLp) (by first | rfl | exact grid_at hcx | exact grid_at hck | exact grid_at hca | (simp; (first | done | fail))) (by first | rfl | exact grid_at hcx | exact grid_at hck | exact grid_at hca | (simp; (first | done | fail))) (by first | (rw [gridC_len]; omega) | decide | (simp; omega))).to (SetR.eq (by exact SRp))) ?_
  refine al_nilT ?_
  refine aw_seq ?_
  refine aw_seq ?_
  refine aw_draw (m := 8) mo (by kernel_rfl) rfl (fun _ _ _ h => h) ?_
  refine dw_opd rfl rfl rfl (ao_fieldAddr fo_31_1 rfl) ?_
  first | refine dw_opd rfl rfl rfl (ao_load (v := .int _ _) Try.isAgg24 (by rfl) (by exact HLp) (by rfl) (by first | rfl | exact grid_at hcx | exact grid_at hck | exact grid_at hca | (simp; (first | done | fail)))) ?_ | refine dw_opd rfl rfl rfl (ao_loadV (j := 0) (u := .int _ _) Try.isAgg24 hsn rfl rfl hx rfl) ?_ | refine dw_opd rfl rfl rfl (ao_loadV (j := 1) (u := .int _ _) Try.isAgg24 hsn rfl rfl hx rfl) ?_ | refine dw_opd rfl rfl rfl (ao_loadV (j := 0) (u := .int _ _) Try.isAgg24 hsn2 rfl rfl hx rfl) ?_ | refine dw_opd rfl rfl rfl (ao_loadV (j := 1) (u := .int _ _) Try.isAgg24 hsn2 rfl rfl hx rfl) ?_
  refine dw_opd rfl rfl rfl (ao_fieldAddr fo_31_0 rfl) ?_
  first | refine dw_opd rfl rfl rfl (ao_load (v := .int _ _) Try.isAgg24 (by rfl) (by exact HLp) (by rfl) (by first | rfl | exact grid_at hcx | exact grid_at hck | exact grid_at hca | (simp; (first | done | fail)))) ?_ | refine dw_opd rfl rfl rfl (ao_loadV (j := 0) (u := .int _ _) Try.isAgg24 hsn rfl rfl hx rfl) ?_ | refine dw_opd rfl rfl rfl (ao_loadV (j := 1) (u := .int _ _) Try.isAgg24 hsn rfl rfl hx rfl) ?_ | refine dw_opd rfl rfl rfl (ao_loadV (j := 0) (u := .int _ _) Try.isAgg24 hsn2 rfl rfl hx rfl) ?_ | refine dw_opd rfl rfl rfl (ao_loadV (j := 1) (u := .int _ _) Try.isAgg24 hsn2 rfl rfl hx rfl) ?_
  refine dw_opd rfl rfl rfl (ao_indexAddrA Try.underlying64 Try.sizeOf63 rfl rfl (by exact IXp) (by exact IXp)) ?_
  refine dw_opd rfl rfl rfl (ao_indexAddrA Try.underlying63 Try.sizeOf2 rfl rfl (by exact IXp) (by exact IXp)) ?_
  first | refine dw_opd rfl rfl rfl (ao_load (v := .int _ _) Try.isAgg2 (by rfl) (by exact HLp) (by rfl) (by first | rfl | exact grid_at hcx | exact grid_at hck | exact grid_at hca | (simp; (first | done | fail)))) ?_ | refine dw_opd rfl rfl rfl (ao_loadV (j := 0) (u := .int _ _) Try.isAgg2 hsn rfl rfl hx rfl) ?_ | refine dw_opd rfl rfl rfl (ao_loadV (j := 1) (u := .int _ _) Try.isAgg2 hsn rfl rfl hx rfl) ?_ | refine dw_opd rfl rfl rfl (ao_loadV (j := 0) (u := .int _ _) Try.isAgg2 hsn2 rfl rfl hx rfl) ?_ | refine dw_opd rfl rfl rfl (ao_loadV (j := 1) (u := .int _ _) Try.isAgg2 hsn2 rfl rfl hx rfl) ?_
  refine dw_opd rfl rfl rfl (ao_lss rfl rfl) ?_
  refine dw_end ?_
  refine al_nilT ?_
  refine aw_cond rfl (fun h1_ => ?_) (fun h1_ => ?_)
  · try simp only [nrm] at h1_
    omega
  try simp only [nrm] at h1_
  refine aw_skipT ?_
  refine aw_seq ?_
  refine aw_region ?_
  first | refine al_opd rfl rfl rfl (ao_loada Try.isAgg31 Try.sizeOf31 rfl (by exact HLp) (by rfl) (by first | rfl | exact grid_at hcx | exact grid_at hck | exact grid_at hca | (simp; (first | done | fail)))) ?_ | refine al_opd rfl rfl rfl (ao_loadsV (A := #[.int _ _, .int _ _]) Try.isAgg31 Try.sizeOf31 hsn rfl hx rfl (by decide)) ?_ | refine al_opd rfl rfl rfl (ao_loadsV (A := #[.int _ _, .int _ _]) Try.isAgg31 Try.sizeOf31 hsn2 rfl hx rfl (by decide)) ?_
  refine al_opd rfl rfl rfl (ao_lit1 (v := .agg _) Try.underlying35 Try.sizeOf31 Try.zeroValue31 (by rfl) (by rfl) rfl rfl (by rfl) (by first | rfl | exact grid_at hcx | exact grid_at hck | exact grid_at hca | (simp; (first | done | fail)))) ?_
  refine al_opd rfl rfl rfl (ao_as (v := .slice _ _ _) rfl) ?_
  refine al_nilT ?_
  refine aw_seq ?_
  refine aw_block ?_
  refine aw_loop (fun (gk : Nat) (fr : AFr) (G : AHeap) => ∃ get : Nat → Value, fr = ⟨84, get⟩ ∧ (∃ (k qb n c : Nat), (k : Int) ≤ v ∧ gk = v.toNat - k ∧ n = k + 1 ∧ n ≤ c ∧ G.blk H.next = some (.cells (spot (posW r a b k)) 1) ∧ Same H.next H G ∧ G.blk (H.next + 1) = some (.cells (spot b) 1) ∧ G.blk (H.next + 2) = some (.cells (gridC (farF (found r b))) 1) ∧ H.next + 4 ≤ G.next ∧ H.next + 3 ≤ qb ∧ qb < G.next ∧ G.blk qb = some (.cells (fl spot (wayN r a b k)) 2) ∧ get 0 = .pointer (some ⟨pb0, 0, none⟩) ∧ get 4 = .pointer (some ⟨H.next, 0, none⟩) ∧ get 5 = .pointer (some ⟨H.next + 1, 0, none⟩) ∧ get 7 = .pointer (some ⟨H.next + 2, 0, none⟩) ∧ get 8 = .slice (some ⟨qb, 0, none⟩) n c)) (v.toNat) ⟨_, rfl, ?_⟩ ?_
  · refine ⟨0, _, 1, _, by omega, rfl, rfl, Nat.le_refl _, by exact HLp, by exact SMp, by exact HLp, by exact HLp, ?_, ?_, ?_, by exact HLp, rfl, rfl, rfl, rfl, rfl⟩ <;> exact LNp
  · rintro gk fr G ⟨get, rfl, k, qb, n, c, hk, rfl, hn, hc, hb0, hG, hb1, hb2, hnx, hqb, hlt, hkb, g0, g4, g5, g7, g8⟩
    have hpk := pos_at hb hv k hk
    have hfk := found_free hb hpk
    have hwk := wf_of_free hfk
    have hck := cell10_of hfk
    have ⟨d1, d2, d3, d4⟩ := hck
    have hfp := (farF_M r b hck).trans (farM_some hpk)
    have hbl : (beside r (posW r a b k)).length ≤ 4 := beside_len r (posW r a b k) 4
    have hp : G.blk pb0 = some (.cells (roomC r) 1) := (hG _ hltp).trans hp0
    refine aw_slot (d := 0) (v := .pointer (some ⟨pb0, 0, none⟩)) (by first | assumption | rfl) ?_
    refine aw_slot (d := 4) (v := .pointer (some ⟨H.next, 0, none⟩)) (by first | assumption | rfl) ?_
    refine aw_slot (d := 5) (v := .pointer (some ⟨H.next + 1, 0, none⟩)) (by first | assumption | rfl) ?_
    refine aw_slot (d := 7) (v := .pointer (some ⟨H.next + 2, 0, none⟩)) (by first | assumption | rfl) ?_
    refine aw_slot (d := 8) (v := .slice (some ⟨qb, 0, none⟩) n c) (by first | assumption | rfl) ?_
    refine aw_seq ?_
    refine aw_seq ?_
    refine aw_region ?_
    first | refine al_opd rfl rfl rfl (ao_loada Try.isAgg31 Try.sizeOf31 rfl (by exact HLp) (by rfl) (by first | rfl | exact grid_at hcx | exact grid_at hck | exact grid_at hca | (simp; (first | done | fail)))) ?_ | refine al_opd rfl rfl rfl (ao_loadsV (A := #[.int _ _, .int _ _]) Try.isAgg31 Try.sizeOf31 hsn rfl hx rfl (by decide)) ?_ | refine al_opd rfl rfl rfl (ao_loadsV (A := #[.int _ _, .int _ _]) Try.isAgg31 Try.sizeOf31 hsn2 rfl hx rfl (by decide)) ?_
    first | refine al_opd rfl rfl rfl (ao_loada Try.isAgg31 Try.sizeOf31 rfl (by exact HLp) (by rfl) (by first | rfl | exact grid_at hcx | exact grid_at hck | exact grid_at hca | (simp; (first | done | fail)))) ?_ | refine al_opd rfl rfl rfl (ao_loadsV (A := #[.int _ _, .int _ _]) Try.isAgg31 Try.sizeOf31 hsn rfl hx rfl (by decide)) ?_ | refine al_opd rfl rfl rfl (ao_loadsV (A := #[.int _ _, .int _ _]) Try.isAgg31 Try.sizeOf31 hsn2 rfl hx rfl (by decide)) ?_
    refine al_opd rfl rfl rfl (ao_neV Try.eqGuardType31 rfl rfl rfl rfl (eqS31 _ _ _ _)) ?_
    refine al_nilT ?_
    refine aw_cond rfl (fun h2_ => ?_) (fun h2_ => ?_)
    · try simp only [nrm] at h2_
      have hkv := pos_lt hb hv hk h2_
      refine aw_skipT ?_
      refine aw_block ?_
      refine aw_seq ?_
      refine aw_region ?_
      refine al_opd rfl rfl rfl (ao_build (A := #[.int .i8 (-1), .int .i8 0]) Try.zeroValue31 (by rfl) (by first | rfl | kernel_rfl) (by rfl) (by first | rfl | kernel_rfl)) ?_
      refine al_opd rfl rfl rfl (ao_alloca (zv31) (by rfl)) ?_
      first | refine al_opd rfl rfl rfl ((ao_storeL Try.sizeOf31 (by rfl) (by rfl) (by exact HLp) (by first | rfl | exact grid_at hcx | exact grid_at hck | exact grid_at hca | (simp; (first | done | fail))) (by first | rfl | exact grid_at hcx | exact grid_at hck | exact grid_at hca | (simp; (first | done | fail))) (by first | rfl | exact grid_at hcx | exact grid_at hck | exact grid_at hca | (simp; (first | done | fail)))).to (SetR.eq (by exact SRp))) ?_ | refine al_opd rfl rfl rfl ((ao_storeP (ds := [.int _ _, .int _ _]) Try.sizeOf31 (by rfl) (by rfl) (by exact HLp) (by first | rfl | exact grid_at hcx | exact grid_at hck | exact grid_at hca | (simp; (first | done | fail))) (by first | rfl | exact grid_at hcx | exact grid_at hck | exact grid_at hca | (simp; (first | done | fail))) (by first | (rw [gridC_len]; omega) | decide | (simp; omega))).to (SetR.eq (by exact SRp))) ?_
      refine al_nilT ?_
      refine aw_seq ?_
      refine aw_region ?_
      refine al_opd rfl rfl rfl (ao_mv (v := .pointer _) rfl) ?_
      first | refine al_opd rfl rfl rfl (ao_loada Try.isAgg31 Try.sizeOf31 rfl (by exact HLp) (by rfl) (by first | rfl | exact grid_at hcx | exact grid_at hck | exact grid_at hca | (simp; (first | done | fail)))) ?_ | refine al_opd rfl rfl rfl (ao_loadsV (A := #[.int _ _, .int _ _]) Try.isAgg31 Try.sizeOf31 hsn rfl hx rfl (by decide)) ?_ | refine al_opd rfl rfl rfl (ao_loadsV (A := #[.int _ _, .int _ _]) Try.isAgg31 Try.sizeOf31 hsn2 rfl hx rfl (by decide)) ?_
      refine al_opd rfl rfl rfl (ao_calld (l01Beside_c (r := r) (s := (posW r a b k)) (by exact HLp) hr hw hwk) Try.call63 rfl rfl) ?_
      refine al_opd rfl rfl rfl (ao_as (v := .slice _ _ _) rfl) ?_
      refine al_nilT ?_
      refine aw_seq ?_
      refine aw_seq ?_
      refine aw_region ?_
      refine al_opd rfl rfl rfl (ao_as (v := .int _ _) rfl) ?_
      refine al_nilT ?_
      refine aw_block ?_
      refine aw_loop (fun (gk : Nat) (fr : AFr) (G : AHeap) => ∃ get : Nat → Value, fr = ⟨84, get⟩ ∧ (∃ (i bb nb : Nat), i ≤ (beside r (posW r a b k)).length ∧ gk = (beside r (posW r a b k)).length - i ∧ G.blk H.next = some (.cells (spot (posW r a b k)) 1) ∧ Same H.next H G ∧ G.blk (H.next + 1) = some (.cells (spot b) 1) ∧ G.blk (H.next + 2) = some (.cells (gridC (farF (found r b))) 1) ∧ H.next + 4 ≤ G.next ∧ H.next + 3 ≤ qb ∧ qb < G.next ∧ G.blk qb = some (.cells (fl spot (wayN r a b k)) 2) ∧ H.next + 4 ≤ bb ∧ bb < G.next ∧ bb ≠ qb ∧ nb ≠ bb ∧ nb ≠ qb ∧ H.next + 4 ≤ nb ∧ nb < G.next ∧ G.blk bb = some (.cells (spot (bestW (candB r b (posW r a b k)) (beside r (posW r a b k)) i)) 1) ∧ G.blk nb = some (.cells (fl spot (beside r (posW r a b k))) 2) ∧ get 0 = .pointer (some ⟨pb0, 0, none⟩) ∧ get 4 = .pointer (some ⟨H.next, 0, none⟩) ∧ get 5 = .pointer (some ⟨H.next + 1, 0, none⟩) ∧ get 7 = .pointer (some ⟨H.next + 2, 0, none⟩) ∧ get 8 = .slice (some ⟨qb, 0, none⟩) n c ∧ get 9 = .pointer (some ⟨bb, 0, none⟩) ∧ get 10 = .slice (some ⟨nb, 0, none⟩) (beside r (posW r a b k)).length ((beside r (posW r a b k)).length + 1) ∧ get 11 = .int .i64 i)) ((beside r (posW r a b k)).length) ⟨_, rfl, ?_⟩ ?_
      · refine ⟨0, G.next, G.next + 1, Nat.zero_le _, rfl, by exact HLp, by exact SMp, by exact HLp, by exact HLp, ?_, hqb, ?_, by exact HLp, ?_, ?_, ?_, ?_, ?_, ?_, ?_, by exact HLp, by exact HLp, rfl, rfl, rfl, rfl, rfl, rfl, rfl, rfl⟩ <;> exact LNp
      · rintro gk fr G ⟨get, rfl, i, bb, nb, hi, rfl, hb0, hG, hb1, hb2, hnx, hqb, hlt, hkb, hbb, hlb, hbq, hnb, hnq, hnn, hln, hkbb, hknb, g0, g4, g5, g7, g8, g9, g10, g11⟩
        have hsn : Sl G spot 2 (.slice (some ⟨nb, 0, none⟩) (beside r (posW r a b k)).length ((beside r (posW r a b k)).length + 1)) (beside r (posW r a b k)) := Sl.full spot_len hknb rfl rfl rfl
        have hwb := bestW_wf (c := candB r b (posW r a b k)) (l := (beside r (posW r a b k))) beside_wf i
        refine aw_slot (d := 0) (v := .pointer (some ⟨pb0, 0, none⟩)) (by first | assumption | rfl) ?_
        refine aw_slot (d := 4) (v := .pointer (some ⟨H.next, 0, none⟩)) (by first | assumption | rfl) ?_
        refine aw_slot (d := 5) (v := .pointer (some ⟨H.next + 1, 0, none⟩)) (by first | assumption | rfl) ?_
        refine aw_slot (d := 7) (v := .pointer (some ⟨H.next + 2, 0, none⟩)) (by first | assumption | rfl) ?_
        refine aw_slot (d := 8) (v := .slice (some ⟨qb, 0, none⟩) n c) (by first | assumption | rfl) ?_
        refine aw_slot (d := 9) (v := .pointer (some ⟨bb, 0, none⟩)) (by first | assumption | rfl) ?_
        refine aw_slot (d := 10) (v := .slice (some ⟨nb, 0, none⟩) (beside r (posW r a b k)).length ((beside r (posW r a b k)).length + 1)) (by first | assumption | rfl) ?_
        refine aw_slot (d := 11) (v := .int .i64 i) (by first | assumption | rfl) ?_
        refine aw_seq ?_
        refine aw_seq ?_
        refine aw_region ?_
        refine al_opd rfl rfl rfl (ao_mv (v := .int _ _) rfl) ?_
        refine al_opd rfl rfl rfl (ao_mv (v := .slice _ _ _) rfl) ?_
        first | refine al_opd rfl rfl rfl (ao_lenS Try.underlying35 (by rfl)) ?_ | refine al_opd rfl rfl rfl (ao_lenN Try.underlying35 (by rfl)) ?_ | refine al_opd rfl rfl rfl (ao_lenV Try.underlying35 rfl hsn) ?_ | refine al_opd rfl rfl rfl (ao_lenV Try.underlying35 rfl hsn2) ?_
        refine al_opd rfl rfl rfl (ao_lss rfl rfl) ?_
        refine al_nilT ?_
        refine aw_cond rfl (fun h3_ => ?_) (fun h3_ => ?_)
        · try simp only [nrm] at h3_
          obtain ⟨x, hx⟩ := get_lt (show i < (beside r (posW r a b k)).length by omega)
          have hxm := List.mem_of_getElem? hx
          have hwx := beside_wf x hxm
          have hcx := cell10_of (beside_free 4 x hxm)
          have ⟨e1, e2, e3, e4⟩ := hcx
          have hfx := farF_M r b hcx
          refine aw_skipT ?_
          refine aw_seq ?_
          refine aw_block ?_
          refine aw_seq ?_
          refine aw_draw (m := 35) mo (by kernel_rfl) rfl (fun _ _ _ h => h) ?_
          refine dw_opd rfl rfl rfl (ao_mv (v := .slice _ _ _) rfl) ?_
          refine dw_opd rfl rfl rfl (ao_mv (v := .int _ _) rfl) ?_
          first | refine dw_opd rfl rfl rfl (ao_indexAddrS Try.underlying35 Try.sizeOf31 rfl rfl (by exact IXp) (by exact IXp)) ?_ | refine dw_opd rfl rfl rfl (ao_indexV Try.underlying35 Try.sizeOf31 rfl rfl hsn (by exact IXp) (by exact IXp)) ?_ | refine dw_opd rfl rfl rfl (ao_indexV Try.underlying35 Try.sizeOf31 rfl rfl hsn2 (by exact IXp) (by exact IXp)) ?_
          refine dw_opd rfl rfl rfl (ao_fieldAddr fo_31_1 rfl) ?_
          first | refine dw_opd rfl rfl rfl (ao_load (v := .int _ _) Try.isAgg24 (by rfl) (by exact HLp) (by rfl) (by first | rfl | exact grid_at hcx | exact grid_at hck | exact grid_at hca | (simp; (first | done | fail)))) ?_ | refine dw_opd rfl rfl rfl (ao_loadV (j := 0) (u := .int _ _) Try.isAgg24 hsn rfl rfl hx rfl) ?_ | refine dw_opd rfl rfl rfl (ao_loadV (j := 1) (u := .int _ _) Try.isAgg24 hsn rfl rfl hx rfl) ?_ | refine dw_opd rfl rfl rfl (ao_loadV (j := 0) (u := .int _ _) Try.isAgg24 hsn2 rfl rfl hx rfl) ?_ | refine dw_opd rfl rfl rfl (ao_loadV (j := 1) (u := .int _ _) Try.isAgg24 hsn2 rfl rfl hx rfl) ?_
          refine dw_opd rfl rfl rfl (ao_mv (v := .slice _ _ _) rfl) ?_
          refine dw_opd rfl rfl rfl (ao_mv (v := .int _ _) rfl) ?_
          first | refine dw_opd rfl rfl rfl (ao_indexAddrS Try.underlying35 Try.sizeOf31 rfl rfl (by exact IXp) (by exact IXp)) ?_ | refine dw_opd rfl rfl rfl (ao_indexV Try.underlying35 Try.sizeOf31 rfl rfl hsn (by exact IXp) (by exact IXp)) ?_ | refine dw_opd rfl rfl rfl (ao_indexV Try.underlying35 Try.sizeOf31 rfl rfl hsn2 (by exact IXp) (by exact IXp)) ?_
          refine dw_opd rfl rfl rfl (ao_fieldAddr fo_31_0 rfl) ?_
          first | refine dw_opd rfl rfl rfl (ao_load (v := .int _ _) Try.isAgg24 (by rfl) (by exact HLp) (by rfl) (by first | rfl | exact grid_at hcx | exact grid_at hck | exact grid_at hca | (simp; (first | done | fail)))) ?_ | refine dw_opd rfl rfl rfl (ao_loadV (j := 0) (u := .int _ _) Try.isAgg24 hsn rfl rfl hx rfl) ?_ | refine dw_opd rfl rfl rfl (ao_loadV (j := 1) (u := .int _ _) Try.isAgg24 hsn rfl rfl hx rfl) ?_ | refine dw_opd rfl rfl rfl (ao_loadV (j := 0) (u := .int _ _) Try.isAgg24 hsn2 rfl rfl hx rfl) ?_ | refine dw_opd rfl rfl rfl (ao_loadV (j := 1) (u := .int _ _) Try.isAgg24 hsn2 rfl rfl hx rfl) ?_
          refine dw_opd rfl rfl rfl (ao_indexAddrA Try.underlying64 Try.sizeOf63 rfl rfl (by exact IXp) (by exact IXp)) ?_
          refine dw_opd rfl rfl rfl (ao_indexAddrA Try.underlying63 Try.sizeOf2 rfl rfl (by exact IXp) (by exact IXp)) ?_
          first | refine dw_opd rfl rfl rfl (ao_load (v := .int _ _) Try.isAgg2 (by rfl) (by exact HLp) (by rfl) (by first | rfl | exact grid_at hcx | exact grid_at hck | exact grid_at hca | (simp; (first | done | fail)))) ?_ | refine dw_opd rfl rfl rfl (ao_loadV (j := 0) (u := .int _ _) Try.isAgg2 hsn rfl rfl hx rfl) ?_ | refine dw_opd rfl rfl rfl (ao_loadV (j := 1) (u := .int _ _) Try.isAgg2 hsn rfl rfl hx rfl) ?_ | refine dw_opd rfl rfl rfl (ao_loadV (j := 0) (u := .int _ _) Try.isAgg2 hsn2 rfl rfl hx rfl) ?_ | refine dw_opd rfl rfl rfl (ao_loadV (j := 1) (u := .int _ _) Try.isAgg2 hsn2 rfl rfl hx rfl) ?_
          refine dw_opd rfl rfl rfl (ao_fieldAddr fo_31_1 rfl) ?_
          first | refine dw_opd rfl rfl rfl (ao_load (v := .int _ _) Try.isAgg24 (by rfl) (by exact HLp) (by rfl) (by first | rfl | exact grid_at hcx | exact grid_at hck | exact grid_at hca | (simp; (first | done | fail)))) ?_ | refine dw_opd rfl rfl rfl (ao_loadV (j := 0) (u := .int _ _) Try.isAgg24 hsn rfl rfl hx rfl) ?_ | refine dw_opd rfl rfl rfl (ao_loadV (j := 1) (u := .int _ _) Try.isAgg24 hsn rfl rfl hx rfl) ?_ | refine dw_opd rfl rfl rfl (ao_loadV (j := 0) (u := .int _ _) Try.isAgg24 hsn2 rfl rfl hx rfl) ?_ | refine dw_opd rfl rfl rfl (ao_loadV (j := 1) (u := .int _ _) Try.isAgg24 hsn2 rfl rfl hx rfl) ?_
          refine dw_opd rfl rfl rfl (ao_fieldAddr fo_31_0 rfl) ?_
          first | refine dw_opd rfl rfl rfl (ao_load (v := .int _ _) Try.isAgg24 (by rfl) (by exact HLp) (by rfl) (by first | rfl | exact grid_at hcx | exact grid_at hck | exact grid_at hca | (simp; (first | done | fail)))) ?_ | refine dw_opd rfl rfl rfl (ao_loadV (j := 0) (u := .int _ _) Try.isAgg24 hsn rfl rfl hx rfl) ?_ | refine dw_opd rfl rfl rfl (ao_loadV (j := 1) (u := .int _ _) Try.isAgg24 hsn rfl rfl hx rfl) ?_ | refine dw_opd rfl rfl rfl (ao_loadV (j := 0) (u := .int _ _) Try.isAgg24 hsn2 rfl rfl hx rfl) ?_ | refine dw_opd rfl rfl rfl (ao_loadV (j := 1) (u := .int _ _) Try.isAgg24 hsn2 rfl rfl hx rfl) ?_
          refine dw_opd rfl rfl rfl (ao_indexAddrA Try.underlying64 Try.sizeOf63 rfl rfl (by exact IXp) (by exact IXp)) ?_
          refine dw_opd rfl rfl rfl (ao_indexAddrA Try.underlying63 Try.sizeOf2 rfl rfl (by exact IXp) (by exact IXp)) ?_
          first | refine dw_opd rfl rfl rfl (ao_load (v := .int _ _) Try.isAgg2 (by rfl) (by exact HLp) (by rfl) (by first | rfl | exact grid_at hcx | exact grid_at hck | exact grid_at hca | (simp; (first | done | fail)))) ?_ | refine dw_opd rfl rfl rfl (ao_loadV (j := 0) (u := .int _ _) Try.isAgg2 hsn rfl rfl hx rfl) ?_ | refine dw_opd rfl rfl rfl (ao_loadV (j := 1) (u := .int _ _) Try.isAgg2 hsn rfl rfl hx rfl) ?_ | refine dw_opd rfl rfl rfl (ao_loadV (j := 0) (u := .int _ _) Try.isAgg2 hsn2 rfl rfl hx rfl) ?_ | refine dw_opd rfl rfl rfl (ao_loadV (j := 1) (u := .int _ _) Try.isAgg2 hsn2 rfl rfl hx rfl) ?_
          first | refine dw_opd rfl rfl rfl ((ao_sub rfl rfl).val (nw_i64 BDp BDp)) ?_ | refine dw_opd rfl rfl rfl (ao_sub rfl rfl) ?_
          refine dw_opd rfl rfl rfl (ao_eql rfl rfl) ?_
          refine dw_opd rfl rfl rfl (ao_mv (v := .bool _) rfl) ?_
          refine dw_cases (d := 61) rfl (fun h4_ => ?_) (fun h4_ => ?_)
          · try simp only [nrm] at h4_
            have hcy : candB r b (posW r a b k) x = true := decide_eq_true (by rw [farM_some hpk]; omega)
            refine dw_gyes rfl rfl rfl rfl rfl (ao_fieldAddr fo_31_0 rfl) ?_
            first | refine dw_gyes rfl rfl rfl rfl rfl (ao_load (v := .int _ _) Try.isAgg24 (by rfl) (by exact HLp) (by rfl) (by first | rfl | exact grid_at hcx | exact grid_at hck | exact grid_at hca | (simp; (first | done | fail)))) ?_ | refine dw_gyes rfl rfl rfl rfl rfl (ao_loadV (j := 0) (u := .int _ _) Try.isAgg24 hsn rfl rfl hx rfl) ?_ | refine dw_gyes rfl rfl rfl rfl rfl (ao_loadV (j := 1) (u := .int _ _) Try.isAgg24 hsn rfl rfl hx rfl) ?_ | refine dw_gyes rfl rfl rfl rfl rfl (ao_loadV (j := 0) (u := .int _ _) Try.isAgg24 hsn2 rfl rfl hx rfl) ?_ | refine dw_gyes rfl rfl rfl rfl rfl (ao_loadV (j := 1) (u := .int _ _) Try.isAgg24 hsn2 rfl rfl hx rfl) ?_
            refine dw_gyes rfl rfl rfl rfl rfl (ao_lss rfl rfl) ?_
            refine dw_gyes rfl rfl rfl rfl rfl (ao_mv (v := .bool _) rfl) ?_
            refine dw_cases (d := 65) rfl (fun h5_ => ?_) (fun h5_ => ?_)
            · try simp only [nrm] at h5_
              refine dw_gno rfl rfl rfl rfl rfl rfl ?_
              refine dw_gno rfl rfl rfl rfl rfl rfl ?_
              refine dw_gno rfl rfl rfl rfl rfl rfl ?_
              refine dw_gno rfl rfl rfl rfl rfl rfl ?_
              refine dw_gno rfl rfl rfl rfl rfl rfl ?_
              refine dw_gno rfl rfl rfl rfl rfl rfl ?_
              refine dw_gyes rfl rfl rfl rfl rfl (ao_pickT rfl (v := .bool _) rfl) ?_
              refine dw_opd rfl rfl rfl (ao_pickT rfl (v := .bool _) rfl) ?_
              refine dw_end ?_
              refine al_nilT ?_
              refine aw_condT (by rfl) ⟨_, rfl⟩ ?_
              refine aw_region ?_
              refine al_opd rfl rfl rfl (ao_mv (v := .slice _ _ _) rfl) ?_
              refine al_opd rfl rfl rfl (ao_mv (v := .int _ _) rfl) ?_
              first | refine al_opd rfl rfl rfl (ao_indexAddrS Try.underlying35 Try.sizeOf31 rfl rfl (by exact IXp) (by exact IXp)) ?_ | refine al_opd rfl rfl rfl (ao_indexV Try.underlying35 Try.sizeOf31 rfl rfl hsn (by exact IXp) (by exact IXp)) ?_ | refine al_opd rfl rfl rfl (ao_indexV Try.underlying35 Try.sizeOf31 rfl rfl hsn2 (by exact IXp) (by exact IXp)) ?_
              first | refine al_opd rfl rfl rfl (ao_loada Try.isAgg31 Try.sizeOf31 rfl (by exact HLp) (by rfl) (by first | rfl | exact grid_at hcx | exact grid_at hck | exact grid_at hca | (simp; (first | done | fail)))) ?_ | refine al_opd rfl rfl rfl (ao_loadsV (A := #[.int _ _, .int _ _]) Try.isAgg31 Try.sizeOf31 hsn rfl hx rfl (by decide)) ?_ | refine al_opd rfl rfl rfl (ao_loadsV (A := #[.int _ _, .int _ _]) Try.isAgg31 Try.sizeOf31 hsn2 rfl hx rfl (by decide)) ?_
              first | refine al_opd rfl rfl rfl ((ao_storeL Try.sizeOf31 (by rfl) (by rfl) (by exact HLp) (by first | rfl | exact grid_at hcx | exact grid_at hck | exact grid_at hca | (simp; (first | done | fail))) (by first | rfl | exact grid_at hcx | exact grid_at hck | exact grid_at hca | (simp; (first | done | fail))) (by first | rfl | exact grid_at hcx | exact grid_at hck | exact grid_at hca | (simp; (first | done | fail)))).to (SetR.eq (by exact SRp))) ?_ | refine al_opd rfl rfl rfl ((ao_storeP (ds := [.int _ _, .int _ _]) Try.sizeOf31 (by rfl) (by rfl) (by exact HLp) (by first | rfl | exact grid_at hcx | exact grid_at hck | exact grid_at hca | (simp; (first | done | fail))) (by first | rfl | exact grid_at hcx | exact grid_at hck | exact grid_at hca | (simp; (first | done | fail))) (by first | (rw [gridC_len]; omega) | decide | (simp; omega))).to (SetR.eq (by exact SRp))) ?_
              refine al_nilB ?_
              refine thenA_n ?_
              refine aw_region ?_
              refine al_opd rfl rfl rfl (ao_mv (v := .int _ _) rfl) ?_
              first | refine al_opd rfl rfl rfl ((ao_add rfl rfl).val (nw_i64 BDp BDp)) ?_ | refine al_opd rfl rfl rfl (ao_add rfl rfl) ?_
              refine al_opd rfl rfl rfl (ao_as (v := .int _ _) rfl) ?_
              refine al_nilT ?_
              refine ⟨_, ?_, _, rfl, i + 1, bb, nb, by omega, rfl, by exact HLp, by exact SMp, by exact HLp, by exact HLp, ?_, hqb, ?_, by exact HLp, hbb, ?_, hbq, hnb, hnq, hnn, ?_, by rw [bestW_yes hx ⟨hcy, .inl h5_⟩]; exact (by exact HLp), by exact HLp, rfl, rfl, rfl, rfl, rfl, rfl, rfl, by rfl⟩
              · omega
              · exact LNp
              · exact LNp
              · exact LNp
              · exact LNp
            · try simp only [nrm] at h5_
              refine dw_gyes rfl rfl rfl rfl rfl (ao_mv (v := .slice _ _ _) rfl) ?_
              refine dw_gyes rfl rfl rfl rfl rfl (ao_mv (v := .int _ _) rfl) ?_
              first | refine dw_gyes rfl rfl rfl rfl rfl (ao_indexAddrS Try.underlying35 Try.sizeOf31 rfl rfl (by exact IXp) (by exact IXp)) ?_ | refine dw_gyes rfl rfl rfl rfl rfl (ao_indexV Try.underlying35 Try.sizeOf31 rfl rfl hsn (by exact IXp) (by exact IXp)) ?_ | refine dw_gyes rfl rfl rfl rfl rfl (ao_indexV Try.underlying35 Try.sizeOf31 rfl rfl hsn2 (by exact IXp) (by exact IXp)) ?_
              first | refine dw_gyes rfl rfl rfl rfl rfl (ao_loada Try.isAgg31 Try.sizeOf31 rfl (by exact HLp) (by rfl) (by first | rfl | exact grid_at hcx | exact grid_at hck | exact grid_at hca | (simp; (first | done | fail)))) ?_ | refine dw_gyes rfl rfl rfl rfl rfl (ao_loadsV (A := #[.int _ _, .int _ _]) Try.isAgg31 Try.sizeOf31 hsn rfl hx rfl (by decide)) ?_ | refine dw_gyes rfl rfl rfl rfl rfl (ao_loadsV (A := #[.int _ _, .int _ _]) Try.isAgg31 Try.sizeOf31 hsn2 rfl hx rfl (by decide)) ?_
              first | refine dw_gyes rfl rfl rfl rfl rfl (ao_loada Try.isAgg31 Try.sizeOf31 rfl (by exact HLp) (by rfl) (by first | rfl | exact grid_at hcx | exact grid_at hck | exact grid_at hca | (simp; (first | done | fail)))) ?_ | refine dw_gyes rfl rfl rfl rfl rfl (ao_loadsV (A := #[.int _ _, .int _ _]) Try.isAgg31 Try.sizeOf31 hsn rfl hx rfl (by decide)) ?_ | refine dw_gyes rfl rfl rfl rfl rfl (ao_loadsV (A := #[.int _ _, .int _ _]) Try.isAgg31 Try.sizeOf31 hsn2 rfl hx rfl (by decide)) ?_
              refine dw_gyes rfl rfl rfl rfl rfl (ao_calld (l01Before_c (a := x) (b := (bestW (candB r b (posW r a b k)) (beside r (posW r a b k)) i)) hwx hwb) Try.call66 rfl rfl) ?_
              refine dw_gyes rfl rfl rfl rfl rfl (ao_pickF rfl (v := .bool _) rfl) ?_
              refine dw_opd rfl rfl rfl (ao_pickT rfl (v := .bool _) rfl) ?_
              refine dw_end ?_
              refine al_nilT ?_
              refine aw_cond rfl (fun h6_ => ?_) (fun h6_ => ?_)
              · try simp only [nrm] at h6_
                refine aw_region ?_
                refine al_opd rfl rfl rfl (ao_mv (v := .slice _ _ _) rfl) ?_
                refine al_opd rfl rfl rfl (ao_mv (v := .int _ _) rfl) ?_
                first | refine al_opd rfl rfl rfl (ao_indexAddrS Try.underlying35 Try.sizeOf31 rfl rfl (by exact IXp) (by exact IXp)) ?_ | refine al_opd rfl rfl rfl (ao_indexV Try.underlying35 Try.sizeOf31 rfl rfl hsn (by exact IXp) (by exact IXp)) ?_ | refine al_opd rfl rfl rfl (ao_indexV Try.underlying35 Try.sizeOf31 rfl rfl hsn2 (by exact IXp) (by exact IXp)) ?_
                first | refine al_opd rfl rfl rfl (ao_loada Try.isAgg31 Try.sizeOf31 rfl (by exact HLp) (by rfl) (by first | rfl | exact grid_at hcx | exact grid_at hck | exact grid_at hca | (simp; (first | done | fail)))) ?_ | refine al_opd rfl rfl rfl (ao_loadsV (A := #[.int _ _, .int _ _]) Try.isAgg31 Try.sizeOf31 hsn rfl hx rfl (by decide)) ?_ | refine al_opd rfl rfl rfl (ao_loadsV (A := #[.int _ _, .int _ _]) Try.isAgg31 Try.sizeOf31 hsn2 rfl hx rfl (by decide)) ?_
                first | refine al_opd rfl rfl rfl ((ao_storeL Try.sizeOf31 (by rfl) (by rfl) (by exact HLp) (by first | rfl | exact grid_at hcx | exact grid_at hck | exact grid_at hca | (simp; (first | done | fail))) (by first | rfl | exact grid_at hcx | exact grid_at hck | exact grid_at hca | (simp; (first | done | fail))) (by first | rfl | exact grid_at hcx | exact grid_at hck | exact grid_at hca | (simp; (first | done | fail)))).to (SetR.eq (by exact SRp))) ?_ | refine al_opd rfl rfl rfl ((ao_storeP (ds := [.int _ _, .int _ _]) Try.sizeOf31 (by rfl) (by rfl) (by exact HLp) (by first | rfl | exact grid_at hcx | exact grid_at hck | exact grid_at hca | (simp; (first | done | fail))) (by first | rfl | exact grid_at hcx | exact grid_at hck | exact grid_at hca | (simp; (first | done | fail))) (by first | (rw [gridC_len]; omega) | decide | (simp; omega))).to (SetR.eq (by exact SRp))) ?_
                refine al_nilB ?_
                refine thenA_n ?_
                refine aw_region ?_
                refine al_opd rfl rfl rfl (ao_mv (v := .int _ _) rfl) ?_
                first | refine al_opd rfl rfl rfl ((ao_add rfl rfl).val (nw_i64 BDp BDp)) ?_ | refine al_opd rfl rfl rfl (ao_add rfl rfl) ?_
                refine al_opd rfl rfl rfl (ao_as (v := .int _ _) rfl) ?_
                refine al_nilT ?_
                refine ⟨_, ?_, _, rfl, i + 1, bb, nb, by omega, rfl, by exact HLp, by exact SMp, by exact HLp, by exact HLp, ?_, hqb, ?_, by exact HLp, hbb, ?_, hbq, hnb, hnq, hnn, ?_, by rw [bestW_yes hx ⟨hcy, .inr (of_decide_eq_true (by simpa using h6_))⟩]; exact (by exact HLp), by exact HLp, rfl, rfl, rfl, rfl, rfl, rfl, rfl, by rfl⟩
                · omega
                · exact LNp
                · exact LNp
                · exact LNp
                · exact LNp
              · try simp only [nrm] at h6_
                refine aw_skipB ?_
                refine thenA_n ?_
                refine aw_region ?_
                refine al_opd rfl rfl rfl (ao_mv (v := .int _ _) rfl) ?_
                first | refine al_opd rfl rfl rfl ((ao_add rfl rfl).val (nw_i64 BDp BDp)) ?_ | refine al_opd rfl rfl rfl (ao_add rfl rfl) ?_
                refine al_opd rfl rfl rfl (ao_as (v := .int _ _) rfl) ?_
                refine al_nilT ?_
                refine ⟨_, ?_, _, rfl, i + 1, bb, nb, by omega, rfl, by exact HLp, by exact SMp, by exact HLp, by exact HLp, ?_, hqb, ?_, by exact HLp, hbb, ?_, hbq, hnb, hnq, hnn, ?_, by rw [bestW_no hx (fun e => e.2.elim (fun q => h5_ q) (fun q => (of_decide_eq_false (by simpa using h6_)) q))]; exact (by exact HLp), by exact HLp, rfl, rfl, rfl, rfl, rfl, rfl, rfl, by rfl⟩
                · omega
                · exact LNp
                · exact LNp
                · exact LNp
                · exact LNp
          · try simp only [nrm] at h4_
            have hcn : ¬ candB r b (posW r a b k) x = true := fun e => by have := of_decide_eq_true e; rw [farM_some hpk] at this; omega
            refine dw_gno rfl rfl rfl rfl rfl rfl ?_
            refine dw_gno rfl rfl rfl rfl rfl rfl ?_
            refine dw_gno rfl rfl rfl rfl rfl rfl ?_
            refine dw_gno rfl rfl rfl rfl rfl rfl ?_
            refine dw_gnu rfl rfl rfl rfl rfl ?_
            refine dw_gnu rfl rfl rfl rfl rfl ?_
            refine dw_gnu rfl rfl rfl rfl rfl ?_
            refine dw_gnu rfl rfl rfl rfl rfl ?_
            refine dw_gnu rfl rfl rfl rfl rfl ?_
            refine dw_gnu rfl rfl rfl rfl rfl ?_
            refine dw_gno rfl rfl rfl rfl rfl rfl ?_
            refine dw_opd rfl rfl rfl (ao_pickF rfl (v := .bool _) rfl) ?_
            refine dw_end ?_
            refine al_nilT ?_
            refine aw_condF (by rfl) ⟨_, rfl⟩ ?_
            refine aw_skipB ?_
            refine thenA_n ?_
            refine aw_region ?_
            refine al_opd rfl rfl rfl (ao_mv (v := .int _ _) rfl) ?_
            first | refine al_opd rfl rfl rfl ((ao_add rfl rfl).val (nw_i64 BDp BDp)) ?_ | refine al_opd rfl rfl rfl (ao_add rfl rfl) ?_
            refine al_opd rfl rfl rfl (ao_as (v := .int _ _) rfl) ?_
            refine al_nilT ?_
            refine ⟨_, ?_, _, rfl, i + 1, bb, nb, by omega, rfl, by exact HLp, by exact SMp, by exact HLp, by exact HLp, ?_, hqb, ?_, by exact HLp, hbb, ?_, hbq, hnb, hnq, hnn, ?_, by rw [bestW_no hx (fun e => hcn e.1)]; exact (by exact HLp), by exact HLp, rfl, rfl, rfl, rfl, rfl, rfl, rfl, by rfl⟩
            · omega
            · exact LNp
            · exact LNp
            · exact LNp
            · exact LNp
        · try simp only [nrm] at h3_
          have hnw := bestW_end (r := r) (b := b) (a := (posW r a b k)) (i := i) (by omega)
          refine aw_exit ?_
          refine thenA_x ?_
          refine thenA_x ?_
          refine blockA_hit ?_
          refine thenA_n ?_
          refine aw_seq ?_
          refine aw_region ?_
          first | refine al_opd rfl rfl rfl (ao_loada Try.isAgg31 Try.sizeOf31 rfl (by exact HLp) (by rfl) (by first | rfl | exact grid_at hcx | exact grid_at hck | exact grid_at hca | (simp; (first | done | fail)))) ?_ | refine al_opd rfl rfl rfl (ao_loadsV (A := #[.int _ _, .int _ _]) Try.isAgg31 Try.sizeOf31 hsn rfl hx rfl (by decide)) ?_ | refine al_opd rfl rfl rfl (ao_loadsV (A := #[.int _ _, .int _ _]) Try.isAgg31 Try.sizeOf31 hsn2 rfl hx rfl (by decide)) ?_
          first | refine al_opd rfl rfl rfl ((ao_storeL Try.sizeOf31 (by rfl) (by rfl) (by exact HLp) (by first | rfl | exact grid_at hcx | exact grid_at hck | exact grid_at hca | (simp; (first | done | fail))) (by first | rfl | exact grid_at hcx | exact grid_at hck | exact grid_at hca | (simp; (first | done | fail))) (by first | rfl | exact grid_at hcx | exact grid_at hck | exact grid_at hca | (simp; (first | done | fail)))).to (SetR.eq (by exact SRp))) ?_ | refine al_opd rfl rfl rfl ((ao_storeP (ds := [.int _ _, .int _ _]) Try.sizeOf31 (by rfl) (by rfl) (by exact HLp) (by first | rfl | exact grid_at hcx | exact grid_at hck | exact grid_at hca | (simp; (first | done | fail))) (by first | rfl | exact grid_at hcx | exact grid_at hck | exact grid_at hca | (simp; (first | done | fail))) (by first | (rw [gridC_len]; omega) | decide | (simp; omega))).to (SetR.eq (by exact SRp))) ?_
          refine al_nilT ?_
          refine aw_region ?_
          refine al_opd rfl rfl rfl (ao_mv (v := .slice _ _ _) rfl) ?_
          first | refine al_opd rfl rfl rfl (ao_loada Try.isAgg31 Try.sizeOf31 rfl (by exact HLp) (by rfl) (by first | rfl | exact grid_at hcx | exact grid_at hck | exact grid_at hca | (simp; (first | done | fail)))) ?_ | refine al_opd rfl rfl rfl (ao_loadsV (A := #[.int _ _, .int _ _]) Try.isAgg31 Try.sizeOf31 hsn rfl hx rfl (by decide)) ?_ | refine al_opd rfl rfl rfl (ao_loadsV (A := #[.int _ _, .int _ _]) Try.isAgg31 Try.sizeOf31 hsn2 rfl hx rfl (by decide)) ?_
          refine al_opd rfl rfl rfl (ao_lit1 (v := .agg _) Try.underlying35 Try.sizeOf31 Try.zeroValue31 (by rfl) (by rfl) rfl rfl (by rfl) (by first | rfl | exact grid_at hcx | exact grid_at hck | exact grid_at hca | (simp; (first | done | fail)))) ?_
          refine al_opd rfl rfl rfl (ao_appC Try.underlying35 ⟨_, Try.underlying35⟩ elem31 (by rfl) (by rfl) (by exact HLp) (by (rw [fl_len spot_len, wayN_len, hn]; omega)) (by exact SCp) (by first | rfl | simp [isOne]) (by exact BDp) (by exact BDp)) ?_
          refine al_opd rfl rfl rfl (ao_as (v := .slice _ _ _) rfl) ?_
          refine al_nilB ?_
          refine thenA_n ?_
          refine ⟨_, ?_, _, rfl, k + 1, _, n + 1, _, by omega, rfl, by omega, Nat.le_succ _, by show _ = some (ABlk.cells (spot (nextW r b (posW r a b k))) 1); rw [← hnw]; exact (by exact HLp), by exact SMp, by exact HLp, by exact HLp, ?_, ?_, ?_, by rw [wayN_succ, fl_snoc, ← hnw]; exact (by exact HLp), rfl, rfl, rfl, rfl, by rfl⟩
          · omega
          · exact LNp
          · exact LNp
          · exact LNp
    · try simp only [nrm] at h2_
      have hke := pos_eq hb hv hk h2_
      subst hke
      refine aw_exit ?_
      refine thenA_x ?_
      refine thenA_x ?_
      refine blockA_hit ?_
      refine thenA_n ?_
      refine aw_seq ?_
      refine aw_region ?_
      refine al_opd rfl rfl rfl (ao_mv (v := .slice _ _ _) rfl) ?_
      refine al_opd rfl rfl rfl (ao_as (v := .slice _ _ _) rfl) ?_
      refine al_nilT ?_
      refine aw_ret ?_
      refine ends1 rfl (rv_tmp (v := .slice _ _ _) rfl) ?_
      have hwl := wayN_len r a b v.toNat
      obtain rfl : n = (wayN r a b v.toNat).length := by omega
      exact ⟨hG, qb, by omega, hkb, fun ρ h => vr_sl h (by omega) (by omega)⟩

-- spec.l01Way
theorem l01Way0_c {r : Room} {a b : Spot} {pb0 : Nat} {H : AHeap} (hp0 : H.blk pb0 = some (.cells (roomC r) 1)) (hr : okRoom r) (hw : wfRoom r) (hwa : wfSpot a) (hwb : wfSpot b) (hb : isFree r b) (hv : mget (found r b) a = none) (hac : cell10 a) : ACd Try.prog 38 [.pointer (some ⟨pb0, 0, none⟩), .agg #[.int .i8 a.x, .int .i8 a.y], .agg #[.int .i8 b.x, .int .i8 b.y]] H (.slice (some ⟨H.next, 0, none⟩) 0 0) (H.push (.cells (fl spot []) 2)) := by
  have hltp := AHeap.lt hp0
  have ⟨c1, c2, c3, c4⟩ := hac
  have hfa := (farF_M r b hac).trans (farM_none hv)
  refine ac_gcs (vrl_fl spot_plain []) (ac_body Try.func38 rfl Try.ntmps38 rfl ?_)
  refine aw_seq ?_
  refine aw_region ?_
  refine al_opd rfl rfl rfl (ao_boxa (by rfl)) ?_
  refine al_opd rfl rfl rfl (ao_boxa (by rfl)) ?_
  refine al_opd rfl rfl rfl (ao_as (v := .slice _ _ _) rfl) ?_
  refine al_nilT ?_
  refine aw_seq ?_
  refine aw_region ?_
  refine al_opd rfl rfl rfl (ao_mv (v := .pointer _) rfl) ?_
  refine al_opd rfl rfl rfl (ao_loada Try.isAgg31 Try.sizeOf31 rfl (by exact HLp) (by rfl) (by first | rfl | exact grid_at hac | (simp; (first | done | fail)))) ?_
  refine al_opd rfl rfl rfl (ao_calld (l01Steps_c (r := r) (s := b) (by exact HLp) hr hw hwb hb) Try.call32 rfl rfl) ?_
  refine al_opd rfl rfl rfl (ao_alloca (zv64) (by rfl)) ?_
  first | refine al_opd rfl rfl rfl ((ao_storeL Try.sizeOf64 (by rfl) (by rfl) (by exact HLp) (by first | rfl | exact grid_at hac | (simp; (first | done | fail))) (by first | rfl | exact grid_at hac | (simp; (first | done | fail))) (by first | rfl | exact grid_at hac | (simp; (first | done | fail)))).to (SetR.eq (by exact SRp))) ?_ | refine al_opd rfl rfl rfl ((ao_storeP (ds := [.int _ _, .int _ _, .int _ _, .int _ _, .int _ _, .int _ _, .int _ _, .int _ _, .int _ _, .int _ _, .int _ _, .int _ _, .int _ _, .int _ _, .int _ _, .int _ _, .int _ _, .int _ _, .int _ _, .int _ _, .int _ _, .int _ _, .int _ _, .int _ _, .int _ _, .int _ _, .int _ _, .int _ _, .int _ _, .int _ _, .int _ _, .int _ _, .int _ _, .int _ _, .int _ _, .int _ _, .int _ _, .int _ _, .int _ _, .int _ _, .int _ _, .int _ _, .int _ _, .int _ _, .int _ _, .int _ _, .int _ _, .int _ _, .int _ _, .int _ _, .int _ _, .int _ _, .int _ _, .int _ _, .int _ _, .int _ _, .int _ _, .int _ _, .int _ _, .int _ _, .int _ _, .int _ _, .int _ _, .int _ _, .int _ _, .int _ _, .int _ _, .int _ _, .int _ _, .int _ _, .int _ _, .int _ _, .int _ _, .int _ _, .int _ _, .int _ _, .int _ _, .int _ _, .int _ _, .int _ _, .int _ _, .int _ _, .int _ _, .int _ _, .int _ _, .int _ _, .int _ _, .int _ _, .int _ _, .int _ _, .int _ _, .int _ _, .int _ _, .int _ _, .int _ _, .int _ _, .int _ _, .int _ _, .int _ _, .int _ _]) Try.sizeOf64 (by rfl) (by rfl) (by exact HLp) (by first | rfl | exact grid_at hac | (simp; (first | done | fail))) (by first | rfl | exact grid_at hac | (simp; (first | done | fail))) (by first | (rw [gridC_len]; omega) | decide | (simp; omega))).to (SetR.eq (by exact SRp))) ?_
  refine al_nilT ?_
  refine aw_seq ?_
  refine aw_seq ?_
  refine aw_draw (m := 8) mo (by kernel_rfl) rfl (fun _ _ _ h => h) ?_
  refine dw_opd rfl rfl rfl (ao_fieldAddr fo_31_1 rfl) ?_
  refine dw_opd rfl rfl rfl (ao_load (v := .int _ _) Try.isAgg24 (by rfl) (by exact HLp) (by rfl) (by first | rfl | exact grid_at hac | (simp; (first | done | fail)))) ?_
  refine dw_opd rfl rfl rfl (ao_fieldAddr fo_31_0 rfl) ?_
  refine dw_opd rfl rfl rfl (ao_load (v := .int _ _) Try.isAgg24 (by rfl) (by exact HLp) (by rfl) (by first | rfl | exact grid_at hac | (simp; (first | done | fail)))) ?_
  refine dw_opd rfl rfl rfl (ao_indexAddrA Try.underlying64 Try.sizeOf63 rfl rfl (by exact IXp) (by exact IXp)) ?_
  refine dw_opd rfl rfl rfl (ao_indexAddrA Try.underlying63 Try.sizeOf2 rfl rfl (by exact IXp) (by exact IXp)) ?_
  refine dw_opd rfl rfl rfl (ao_load (v := .int _ _) Try.isAgg2 (by rfl) (by exact HLp) (by rfl) (by first | rfl | exact grid_at hac | (simp; (first | done | fail)))) ?_
  refine dw_opd rfl rfl rfl (ao_lss rfl rfl) ?_
  refine dw_end ?_
  refine al_nilT ?_
  refine aw_cond rfl (fun h1_ => ?_) (fun h1_ => ?_)
  rotate_left
  · try simp only [nrm] at h1_
    omega
  try simp only [nrm] at h1_
  refine aw_seq ?_
  refine aw_region ?_
  refine al_opd rfl rfl rfl (ao_lit0 Try.underlying35 Try.sizeOf31 Try.zeroValue31 (by rfl) (by rfl) rfl) ?_
  refine al_opd rfl rfl rfl (ao_as (v := .slice _ _ _) rfl) ?_
  refine al_nilT ?_
  refine aw_ret ?_
  refine thenA_r ?_
  refine ends1 rfl (rv_tmp (v := .slice _ _ _) rfl) ?_
  exact ⟨by exact SMp, _, by exact LEp, by exact HLp, fun ρ h => vr_sl h (by omega) (by omega)⟩

-- spec.WayBetween
theorem specWay1_c {r : Room} {a b : Spot} {v : Int} {H : AHeap} (hw : wfRoom r) (hwa : wfSpot a) (hwb : wfSpot b) (hcc : twoC r a b 0) (hv : mget (found r b) a = some v) : ACd Try.prog 10 [.agg (roomC r).toArray, .agg #[.int .i8 a.x, .int .i8 a.y], .agg #[.int .i8 b.x, .int .i8 b.y]] H (.tuple #[.slice (some ⟨H.next, 0, none⟩) (wayN r a b v.toNat).length ((wayN r a b v.toNat).length + 1), .int .i64 0]) (H.push (.cells (fl spot (wayN r a b v.toNat)) 2)) := by
  have ⟨hr, hfa, hfb⟩ := two_ok hcc
  have hwl := wayN_len r a b v.toNat
  have hvp := found_pos hfb hv
  refine ac_gcs (vrl_fl spot_plain _) (ac_body Try.func10 rfl Try.ntmps10 rfl ?_)
  refine aw_seq ?_
  refine aw_region ?_
  refine al_opd rfl rfl rfl (ao_boxa (by rfl)) ?_
  refine al_opd rfl rfl rfl (ao_boxa (by rfl)) ?_
  refine al_opd rfl rfl rfl (ao_boxa (by rfl)) ?_
  refine al_opd rfl rfl rfl (ao_as (v := .slice _ _ _) rfl) ?_
  refine al_opd rfl rfl rfl (ao_as (v := .int _ _) rfl) ?_
  refine al_nilT ?_
  refine aw_seq ?_
  refine aw_seq ?_
  refine aw_region ?_
  refine al_opd rfl rfl rfl (ao_loada Try.isAgg31 Try.sizeOf31 rfl (by exact HLp) (by rfl) (by exact RFp)) ?_
  refine al_opd rfl rfl rfl (ao_loada Try.isAgg31 Try.sizeOf31 rfl (by exact HLp) (by rfl) (by exact RFp)) ?_
  refine al_opd rfl rfl rfl (ao_calld (l01Two_c (r := r) (a := a) (b := b) (c := 0) (by exact HLp) hw hwa hwb hcc) Try.call31 rfl rfl) ?_
  refine al_opd rfl rfl rfl (ao_as (v := .int _ _) rfl) ?_
  refine al_nilT ?_
  refine aw_seq ?_
  refine aw_region ?_
  refine al_opd rfl rfl rfl (ao_mv (v := .int _ _) rfl) ?_
  refine al_opd rfl rfl rfl (ao_neq rfl rfl) ?_
  refine al_nilT ?_
  refine aw_cond rfl (fun h1_ => ?_) (fun h1_ => ?_)
  · try simp only [nrm] at h1_
    first | done | omega | (exfalso; revert h1_; simp; (first | done | omega))
  try simp only [nrm] at h1_
  refine aw_skipT ?_
  refine aw_seq ?_
  refine aw_region ?_
  refine al_opd rfl rfl rfl (ao_loada Try.isAgg31 Try.sizeOf31 rfl (by exact HLp) (by rfl) (by exact RFp)) ?_
  refine al_opd rfl rfl rfl (ao_loada Try.isAgg31 Try.sizeOf31 rfl (by exact HLp) (by rfl) (by exact RFp)) ?_
  refine al_opd rfl rfl rfl (ao_calld (l01Way1_c (r := r) (a := a) (b := b) (v := v) (by exact HLp) hr hw hwa hwb hfb hv) Try.call38 rfl rfl) ?_
  refine al_opd rfl rfl rfl (ao_as (v := .slice _ _ _) rfl) ?_
  refine al_nilT ?_
  refine aw_seq ?_
  refine aw_seq ?_
  refine aw_region ?_
  refine al_opd rfl rfl rfl (ao_mv (v := .slice _ _ _) rfl) ?_
  first | refine al_opd rfl rfl rfl (ao_lenS Try.underlying35 (by rfl)) ?_ | refine al_opd rfl rfl rfl (ao_lenN Try.underlying35 (by rfl)) ?_
  refine al_opd rfl rfl rfl (ao_eql rfl rfl) ?_
  refine al_nilT ?_
  refine aw_cond rfl (fun h2_ => ?_) (fun h2_ => ?_)
  · try simp only [nrm] at h2_
    omega
  try simp only [nrm] at h2_
  refine aw_skipT ?_
  refine aw_seq ?_
  refine aw_region ?_
  refine al_opd rfl rfl rfl (ao_mv (v := .slice _ _ _) rfl) ?_
  refine al_opd rfl rfl rfl (ao_as (v := .slice _ _ _) rfl) ?_
  refine al_opd rfl rfl rfl (ao_as (v := .int _ _) rfl) ?_
  refine al_nilT ?_
  refine aw_ret ?_
  refine ends2 rfl (rv_tmp (v := .slice _ _ _) rfl) (rv_tmp (v := .int _ _) rfl) ?_
  exact ⟨by exact SMp, _, by exact LEp, by exact HLp, fun ρ h => vr_tup2 (vr_sl h (by omega) (by omega)) (.int _ _)⟩

-- spec.WayBetween
theorem specWay6_c {r : Room} {a b : Spot} {H : AHeap} (hw : wfRoom r) (hwa : wfSpot a) (hwb : wfSpot b) (hcc : twoC r a b 0) (hv : mget (found r b) a = none) : ACd Try.prog 10 [.agg (roomC r).toArray, .agg #[.int .i8 a.x, .int .i8 a.y], .agg #[.int .i8 b.x, .int .i8 b.y]] H (.tuple #[.slice (some ⟨H.next, 0, none⟩) 0 0, .int .i64 6]) (H.push (.cells (fl spot []) 2)) := by
  have ⟨hr, hfa, hfb⟩ := two_ok hcc
  refine ac_gcs (vrl_fl spot_plain []) (ac_body Try.func10 rfl Try.ntmps10 rfl ?_)
  refine aw_seq ?_
  refine aw_region ?_
  refine al_opd rfl rfl rfl (ao_boxa (by rfl)) ?_
  refine al_opd rfl rfl rfl (ao_boxa (by rfl)) ?_
  refine al_opd rfl rfl rfl (ao_boxa (by rfl)) ?_
  refine al_opd rfl rfl rfl (ao_as (v := .slice _ _ _) rfl) ?_
  refine al_opd rfl rfl rfl (ao_as (v := .int _ _) rfl) ?_
  refine al_nilT ?_
  refine aw_seq ?_
  refine aw_seq ?_
  refine aw_region ?_
  refine al_opd rfl rfl rfl (ao_loada Try.isAgg31 Try.sizeOf31 rfl (by exact HLp) (by rfl) (by exact RFp)) ?_
  refine al_opd rfl rfl rfl (ao_loada Try.isAgg31 Try.sizeOf31 rfl (by exact HLp) (by rfl) (by exact RFp)) ?_
  refine al_opd rfl rfl rfl (ao_calld (l01Two_c (r := r) (a := a) (b := b) (c := 0) (by exact HLp) hw hwa hwb hcc) Try.call31 rfl rfl) ?_
  refine al_opd rfl rfl rfl (ao_as (v := .int _ _) rfl) ?_
  refine al_nilT ?_
  refine aw_seq ?_
  refine aw_region ?_
  refine al_opd rfl rfl rfl (ao_mv (v := .int _ _) rfl) ?_
  refine al_opd rfl rfl rfl (ao_neq rfl rfl) ?_
  refine al_nilT ?_
  refine aw_cond rfl (fun h1_ => ?_) (fun h1_ => ?_)
  · try simp only [nrm] at h1_
    first | done | omega | (exfalso; revert h1_; simp; (first | done | omega))
  try simp only [nrm] at h1_
  refine aw_skipT ?_
  refine aw_seq ?_
  refine aw_region ?_
  refine al_opd rfl rfl rfl (ao_loada Try.isAgg31 Try.sizeOf31 rfl (by exact HLp) (by rfl) (by exact RFp)) ?_
  refine al_opd rfl rfl rfl (ao_loada Try.isAgg31 Try.sizeOf31 rfl (by exact HLp) (by rfl) (by exact RFp)) ?_
  refine al_opd rfl rfl rfl (ao_calld (l01Way0_c (r := r) (a := a) (b := b) (by exact HLp) hr hw hwa hwb hfb hv (cell10_of hfa)) Try.call38 rfl rfl) ?_
  refine al_opd rfl rfl rfl (ao_as (v := .slice _ _ _) rfl) ?_
  refine al_nilT ?_
  refine aw_seq ?_
  refine aw_seq ?_
  refine aw_region ?_
  refine al_opd rfl rfl rfl (ao_mv (v := .slice _ _ _) rfl) ?_
  first | refine al_opd rfl rfl rfl (ao_lenS Try.underlying35 (by rfl)) ?_ | refine al_opd rfl rfl rfl (ao_lenN Try.underlying35 (by rfl)) ?_
  refine al_opd rfl rfl rfl (ao_eql rfl rfl) ?_
  refine al_nilT ?_
  refine aw_cond rfl (fun h2_ => ?_) (fun h2_ => ?_)
  rotate_left
  · try simp only [nrm] at h2_
    omega
  try simp only [nrm] at h2_
  refine aw_seq ?_
  refine aw_region ?_
  refine al_opd rfl rfl rfl (ao_lit0 Try.underlying35 Try.sizeOf31 Try.zeroValue31 (by rfl) (by rfl) rfl) ?_
  refine al_opd rfl rfl rfl (ao_as (v := .slice _ _ _) rfl) ?_
  refine al_opd rfl rfl rfl (ao_as (v := .int _ _) rfl) ?_
  refine al_nilT ?_
  refine aw_ret ?_
  refine thenA_r ?_
  refine ends2 rfl (rv_tmp (v := .slice _ _ _) rfl) (rv_tmp (v := .int _ _) rfl) ?_
  exact ⟨by exact SMp, _, by exact LEp, by exact HLp, fun ρ h => vr_tup2 (vr_sl h (by omega) (by omega)) (.int _ _)⟩

end Go.Proofs.Ytmafkbminigbcaa
