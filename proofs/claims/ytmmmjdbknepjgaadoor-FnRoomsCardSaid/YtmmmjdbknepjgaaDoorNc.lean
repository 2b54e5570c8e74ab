/- Contracts of the program's functions over abstract heaps. -/
import Derived.Test.YtmmmjdbknepjgaaDoorBfs9
import Derived.Test.YtmmmjdbknepjgaaDoorVr
import Derived.Test.YtmmmjdbknepjgaaDoorFr
import Derived.Test.YtmmmjdbknepjgaaDoorPa
namespace Go.Proofs.YtmmmjdbknepjgaaDoor
open Go Go.AW Go.Proofs
set_option linter.unusedVariables false
set_option linter.unusedSimpArgs false
set_option maxRecDepth 100000
set_option maxHeartbeats 2000000

-- impl.NarrowCells$1
theorem narrow1_c {r : Room} {s : Spot} {b1 b2 : Nat} {H : AHeap} (h1 : H.blk b1 = some (.cells (roomC r) 1)) (h2 : H.blk b2 = some (.cells [.int .i64 (partsL r).length] 1)) (hr : okRoom r) (hw : wfRoom r) (hs : wfSpot s) : ACd Tryd.prog 52 [.agg #[.int .i8 s.x, .int .i8 s.y], .pointer (some ⟨b1, 0, none⟩), .pointer (some ⟨b2, 0, none⟩)] H (.bool (narrowB r s)) (H) := by
  refine ac_gc0 (fun β => VR.plainT β (by first | rfl | simp [plainT, plainV, plain1])) (ac_body Tryd.func52 rfl Tryd.ntmps52 rfl ?_)
  refine aw_seq ?_
  refine aw_region ?_
  refine al_opd rfl rfl rfl (ao_boxa (by rfl)) ?_
  refine al_opd rfl rfl rfl (ao_as (v := .bool _) rfl) ?_
  refine al_nilT ?_
  refine aw_seq ?_
  refine aw_draw (m := 13) mo (by kernel_rfl) rfl (fun _ _ _ h => h) ?_
  refine dw_opd rfl rfl rfl (ao_loada Tryd.isAgg28 Tryd.sizeOf28 rfl (by exact HLq) (by rfl) (by exact RFp)) ?_
  refine dw_opd rfl rfl rfl (ao_loada Tryd.isAgg48 Tryd.sizeOf48 rfl (by exact HLq) (by rfl) (by exact RFp)) ?_
  refine dw_opd rfl rfl rfl (ao_calld (isFree_c (r := r) (s := s) (b := freeB r s) hw hs (freeB_iff r s)) Tryd.call41 rfl rfl) ?_
  refine dw_opd rfl rfl rfl (ao_mv (v := .bool _) rfl) ?_
  refine dw_cases (d := 8) rfl (fun h1_ => ?_) (fun h1_ => ?_)
  · try simp only [nrm] at h1_
    have hfr := (freeB_iff r s).mp h1_
    have ⟨c1, c2, c3, c4, c5, c6⟩ := hfr.1
    have hna := narrow_at hfr
    refine dw_gyes rfl rfl rfl rfl rfl (ao_loada Tryd.isAgg28 Tryd.sizeOf28 rfl (by exact HLq) (by rfl) (by exact RFp)) ?_
    refine dw_gyes rfl rfl rfl rfl rfl (ao_loada Tryd.isAgg48 Tryd.sizeOf48 rfl (by exact HLq) (by rfl) (by exact RFp)) ?_
    refine dw_gyes rfl rfl rfl rfl rfl (ao_calld (withR_c (r := r) (s := s) (on := true) (by omega) (by omega)) Tryd.call38 rfl rfl) ?_
    refine dw_gyesw rfl rfl rfl rfl rfl (Same.addP (Same.refl _ _) (Nat.le_refl _) _) (by rw [next_addP]; omega) (ao_calld (implParts_c (r := (wallR r s true)) (wallR_ok hr hw hfr.1) (wallR_wf hw)) Tryd.call47 rfl rfl) ?_
    first | refine dw_gyes rfl rfl rfl rfl rfl (ao_lenS Tryd.underlying34 (by rfl)) ?_ | refine dw_gyes rfl rfl rfl rfl rfl (ao_lenN Tryd.underlying34 (by rfl)) ?_
    refine dw_gyes rfl rfl rfl rfl rfl (ao_load (v := .int _ _) Tryd.isAgg3 (by rfl) (by exact HLq) (by rfl) (by exact RFp)) ?_
    refine dw_gyes rfl rfl rfl rfl rfl (ao_gtr rfl rfl) ?_
    refine dw_opd rfl rfl rfl (ao_pickT rfl (v := .bool _) rfl) ?_
    refine dw_opd rfl rfl rfl (ao_as (v := .bool _) rfl) ?_
    refine dw_end ?_
    refine al_nilT ?_
    refine aw_ret ?_
    refine ends1 rfl (rv_tmp (v := .bool _) rfl) ?_
    rw [hna]
    exact ⟨by first | rfl | (simp; done) | (congr 2; omega) | (rw [decide_eq_decide.mpr (by omega)]), by exact SMq⟩
  · try simp only [nrm] at h1_
    have hna : narrowB r s = false := by unfold narrowB; rw [show freeB r s = false by simpa using h1_]; rfl
    refine dw_gno rfl rfl rfl rfl rfl rfl ?_
    refine dw_gno rfl rfl rfl rfl rfl rfl ?_
    refine dw_gno rfl rfl rfl rfl rfl rfl ?_
    refine dw_gno rfl rfl rfl rfl rfl rfl ?_
    refine dw_gno rfl rfl rfl rfl rfl rfl ?_
    refine dw_gno rfl rfl rfl rfl rfl rfl ?_
    refine dw_gno rfl rfl rfl rfl rfl rfl ?_
    refine dw_opd rfl rfl rfl (ao_pickF rfl (v := .bool _) rfl) ?_
    refine dw_opd rfl rfl rfl (ao_as (v := .bool _) rfl) ?_
    refine dw_end ?_
    refine al_nilT ?_
    refine aw_ret ?_
    refine ends1 rfl (rv_tmp (v := .bool _) rfl) ?_
    rw [hna]
    exact ⟨by first | rfl | (simp; done) | (congr 2; omega) | (rw [decide_eq_decide.mpr (by omega)]), by exact SMq⟩

-- impl.NarrowCells
theorem implNar1_c {r : Room} {H : AHeap} (hw : wfRoom r) (hr : okRoom r) : ACd Tryd.prog 15 [.agg (roomC r).toArray] H (.tuple #[.slice (some ⟨H.next, 0, none⟩) (narrowL r).length ((narrowL r).length + 1), .int .i64 0]) (H.push (.cells (fl spot (narrowL r)) 2)) := by
  have ⟨r1, r2, r3, r4, r5⟩ := hr
  have hnl : (narrowL r).length ≤ 100 := filter_len r (narrowB r) hr.2.1 hr.2.2.2.1
  have hpl := parts_le r
  refine ac_gcs (vrl_fl spot_plain _) (ac_body Tryd.func15 rfl Tryd.ntmps15 rfl ?_)
  refine aw_seq ?_
  refine aw_region ?_
  refine al_opd rfl rfl rfl (ao_boxa (by rfl)) ?_
  refine al_opd rfl rfl rfl (ao_as (v := .slice _ _ _) rfl) ?_
  refine al_opd rfl rfl rfl (ao_as (v := .int _ _) rfl) ?_
  refine al_nilT ?_
  refine aw_seq ?_
  refine aw_seq ?_
  refine aw_region ?_
  refine al_opd rfl rfl rfl (ao_loada Tryd.isAgg28 Tryd.sizeOf28 rfl (by exact HLq) (by rfl) (by exact RFp)) ?_
  refine al_opd rfl rfl rfl (ao_calld (implValid_c (r := r) (b := true) hw (yes hr)) Tryd.call17 rfl rfl) ?_
  refine al_opd rfl rfl rfl (ao_not rfl) ?_
  refine al_nilT ?_
  refine aw_cond rfl (fun h1_ => ?_) (fun h1_ => ?_)
  · try simp only [nrm] at h1_
    first | done | omega | (exfalso; revert h1_; simp; (first | done | omega))
  try simp only [nrm] at h1_
  refine aw_skipT ?_
  refine aw_seq ?_
  refine aw_region ?_
  refine al_opd rfl rfl rfl (ao_loada Tryd.isAgg28 Tryd.sizeOf28 rfl (by exact HLq) (by rfl) (by exact RFp)) ?_
  refine al_opd rfl rfl rfl (ao_calld (implParts_c (r := r) hr hw) Tryd.call47 rfl rfl) ?_
  first | refine al_opd rfl rfl rfl (ao_lenS Tryd.underlying34 (by rfl)) ?_ | refine al_opd rfl rfl rfl (ao_lenN Tryd.underlying34 (by rfl)) ?_
  refine al_opd rfl rfl rfl (ao_alloc1 Tryd.zeroValue3 rfl rfl) ?_
  refine al_opd rfl rfl rfl ((ao_store1 (v := .int _ _) Tryd.sizeOf3 (by rfl) (by rfl) (by exact HLq) (by rfl) (by exact LTp)).to (SetR.eq (by exact SRp))) ?_
  refine al_nilT ?_
  refine aw_seq ?_
  refine aw_region ?_
  refine al_opd rfl rfl rfl (ao_loada Tryd.isAgg28 Tryd.sizeOf28 rfl (by exact HLq) (by rfl) (by exact RFp)) ?_
  refine al_opd rfl rfl rfl (ao_makeFunc rfl rfl) ?_
  refine al_opd rfl rfl rfl (ao_calld (cells_c (fnum := 52) (fs := #[]) (cs := #[.pointer (some ⟨H.next, 0, none⟩), .pointer (some ⟨((H.push (.cells (roomC r) 1)).addP (partsL r)).next, 0, none⟩)]) (r := r) (p := narrowB r) Tryd.call52 (fun G x y hs hx hy => narrow1_c (r := r) (s := ⟨(x : Int), (y : Int)⟩) ((hs _ (by exact LNq)).trans (by exact HLq)) ((hs _ (by exact LNq)).trans (by exact HLq)) hr hw ⟨⟨by show (-128 : Int) ≤ (x : Int); omega, by show (x : Int) ≤ 127; omega⟩, ⟨by show (-128 : Int) ≤ (y : Int); omega, by show (y : Int) ≤ 127; omega⟩⟩) (by omega)) Tryd.call42 rfl rfl) ?_
  refine al_opd rfl rfl rfl (ao_as (v := .slice _ _ _) rfl) ?_
  refine al_opd rfl rfl rfl (ao_as (v := .int _ _) rfl) ?_
  refine al_nilT ?_
  refine aw_ret ?_
  refine ends2 rfl (rv_tmp (v := .slice _ _ _) rfl) (rv_tmp (v := .int _ _) rfl) ?_
  exact ⟨by exact SMq, _, by exact LEq, by exact HLp, fun ρ h => vr_tup2 (vr_sl h (by unfold narrowL; omega) (by unfold narrowL; omega)) (.int _ _)⟩

-- spec.NarrowCells
theorem specNar1_c {r : Room} {H : AHeap} (hw : wfRoom r) (hr : okRoom r) : ACd Tryd.prog 16 [.agg (roomC r).toArray] H (.tuple #[.slice (some ⟨H.next, 0, none⟩) (narrowL r).length ((narrowL r).length + 1), .int .i64 0]) (H.push (.cells (fl spot (narrowL r)) 2)) := by
  have hfl : (freeL r).length ≤ 100 := filter_len r (freeB r) hr.2.1 hr.2.2.2.1
  have hnl : (narrowL r).length ≤ 100 := filter_len r (narrowB r) hr.2.1 hr.2.2.2.1
  have hpl := parts_le r
  refine ac_gcs (vrl_fl spot_plain _) (ac_body Tryd.func16 rfl Tryd.ntmps16 rfl ?_)
  refine aw_seq ?_
  refine aw_region ?_
  refine al_opd rfl rfl rfl (ao_boxa (by rfl)) ?_
  refine al_opd rfl rfl rfl (ao_as (v := .slice _ _ _) rfl) ?_
  refine al_opd rfl rfl rfl (ao_as (v := .int _ _) rfl) ?_
  refine al_nilT ?_
  refine aw_seq ?_
  refine aw_seq ?_
  refine aw_region ?_
  refine al_opd rfl rfl rfl (ao_calld (l01Ok_c (r := r) (b := true) (by exact HLq) hw (yes hr)) Tryd.call44 rfl rfl) ?_
  refine al_opd rfl rfl rfl (ao_not rfl) ?_
  refine al_nilT ?_
  refine aw_cond rfl (fun h1_ => ?_) (fun h1_ => ?_)
  · try simp only [nrm] at h1_
    first | done | omega | (exfalso; revert h1_; simp; (first | done | omega))
  try simp only [nrm] at h1_
  refine aw_skipT ?_
  refine aw_seq ?_
  refine aw_region ?_
  refine al_opd rfl rfl rfl (ao_lit0 Tryd.underlying37 Tryd.sizeOf48 Tryd.zeroValue48 (by rfl) (by rfl) rfl) ?_
  refine al_opd rfl rfl rfl (ao_as (v := .slice _ _ _) rfl) ?_
  refine al_nilT ?_
  refine aw_seq ?_
  refine aw_region ?_
  refine al_opd rfl rfl rfl (ao_calld (l01All_c (r := r) (by exact HLq) hr hw) Tryd.call50 rfl rfl) ?_
  refine al_opd rfl rfl rfl (ao_as (v := .slice _ _ _) rfl) ?_
  refine al_nilT ?_
  refine aw_seq ?_
  refine aw_region ?_
  refine al_opd rfl rfl rfl (ao_calld (l01Parts_c (r := r) (by exact HLq) hr hw) Tryd.call48 rfl rfl) ?_
  first | refine al_opd rfl rfl rfl (ao_lenS Tryd.underlying34 (by rfl)) ?_ | refine al_opd rfl rfl rfl (ao_lenN Tryd.underlying34 (by rfl)) ?_ | refine al_opd rfl rfl rfl (ao_lenV Tryd.underlying34 rfl hsf1) ?_ | refine al_opd rfl rfl rfl (ao_lenV Tryd.underlying34 rfl hsf) ?_ | refine al_opd rfl rfl rfl (ao_lenV Tryd.underlying34 rfl hsf2) ?_
  refine al_opd rfl rfl rfl (ao_as (v := .int _ _) rfl) ?_
  refine al_nilT ?_
  refine aw_seq ?_
  refine aw_seq ?_
  refine aw_region ?_
  refine al_opd rfl rfl rfl (ao_as (v := .int _ _) rfl) ?_
  refine al_nilT ?_
  refine aw_block ?_
  refine aw_loop (fun (gk : Nat) (fr : AFr) (G : AHeap) => ∃ get : Nat → Value, fr = ⟨40, get⟩ ∧ (∃ (i qb n c : Nat), i ≤ (freeL r).length ∧ gk = (freeL r).length - i ∧ Same H.next H G ∧ G.blk H.next = some (.cells (roomC r) 1) ∧ G.blk (H.next + 2) = some (.cells (fl spot (freeL r)) 2) ∧ H.next + 3 ≤ G.next ∧ H.next + 1 ≤ qb ∧ qb < G.next ∧ qb ≠ H.next + 2 ∧ G.blk qb = some (.cells (fl spot (((freeL r).take i).filter (narrowB r))) 2) ∧ n = (((freeL r).take i).filter (narrowB r)).length ∧ n ≤ c ∧ get 1 = .pointer (some ⟨H.next, 0, none⟩) ∧ get 4 = .slice (some ⟨qb, 0, none⟩) n c ∧ get 5 = .slice (some ⟨H.next + 2, 0, none⟩) (freeL r).length ((freeL r).length + 1) ∧ get 6 = .int .i64 (partsL r).length ∧ get 7 = .int .i64 i)) ((freeL r).length) ⟨_, rfl, ?_⟩ ?_
  · refine ⟨0, H.next + 1, 0, 0, Nat.zero_le _, rfl, by exact SMq, by exact HLq, by exact HLq, ?_, Nat.le_refl _, ?_, ?_, by exact HLq, rfl, Nat.le_refl _, rfl, rfl, rfl, rfl, rfl⟩ <;> exact LNq
  · rintro gk fr G ⟨get, rfl, i, qb, n, c, hi, rfl, hG, hb0, hbf, hnx, hqb, hlt, hne, hkb, hn, hc, g1, g4, g5, g6, g7⟩
    have hsf : Sl G spot 2 (.slice (some ⟨H.next + 2, 0, none⟩) (freeL r).length ((freeL r).length + 1)) (freeL r) := Sl.full spot_len hbf rfl rfl rfl
    have hfk := ftake_len (freeL r) (narrowB r) i
    refine aw_slot (d := 1) (v := .pointer (some ⟨H.next, 0, none⟩)) (by first | assumption | rfl) ?_
    refine aw_slot (d := 4) (v := .slice (some ⟨qb, 0, none⟩) n c) (by first | assumption | rfl) ?_
    refine aw_slot (d := 5) (v := .slice (some ⟨H.next + 2, 0, none⟩) (freeL r).length ((freeL r).length + 1)) (by first | assumption | rfl) ?_
    refine aw_slot (d := 6) (v := .int .i64 (partsL r).length) (by first | assumption | rfl) ?_
    refine aw_slot (d := 7) (v := .int .i64 i) (by first | assumption | rfl) ?_
    refine aw_seq ?_
    refine aw_seq ?_
    refine aw_region ?_
    refine al_opd rfl rfl rfl (ao_mv (v := .int _ _) rfl) ?_
    refine al_opd rfl rfl rfl (ao_mv (v := .slice _ _ _) rfl) ?_
    first | refine al_opd rfl rfl rfl (ao_lenS Tryd.underlying37 (by rfl)) ?_ | refine al_opd rfl rfl rfl (ao_lenN Tryd.underlying37 (by rfl)) ?_ | refine al_opd rfl rfl rfl (ao_lenV Tryd.underlying37 rfl hsf1) ?_ | refine al_opd rfl rfl rfl (ao_lenV Tryd.underlying37 rfl hsf) ?_ | refine al_opd rfl rfl rfl (ao_lenV Tryd.underlying37 rfl hsf2) ?_
    refine al_opd rfl rfl rfl (ao_lss rfl rfl) ?_
    refine al_nilT ?_
    refine aw_cond rfl (fun h2_ => ?_) (fun h2_ => ?_)
    · try simp only [nrm] at h2_
      obtain ⟨x, hx⟩ := get_lt (show i < (freeL r).length by omega)
      have hfx := free_at hx
      have ⟨c1, c2, c3, c4, c5, c6⟩ := hfx.1
      have hrx := wallR_ok (on := true) hr hw hfx.1
      have hna := narrow_at hfx
      have hpx := parts_le (wallR r x true)
      have hsf1 : Sl (G.push (.cells (roomC r) 1)) spot 2 (.slice (some ⟨H.next + 2, 0, none⟩) (freeL r).length ((freeL r).length + 1)) (freeL r) := hsf.mono (by exact SMq)
      refine aw_skipT ?_
      refine aw_seq ?_
      refine aw_block ?_
      refine aw_seq ?_
      refine aw_region ?_
      first | refine al_opd rfl rfl rfl (ao_loada Tryd.isAgg28 Tryd.sizeOf28 rfl (by exact HLq) (by rfl) (by exact RFp)) ?_ | refine al_opd rfl rfl rfl (ao_loadsV (A := #[.int _ _, .int _ _, .int _ _, .int _ _, .int _ _, .int _ _, .int _ _, .int _ _, .int _ _, .int _ _, .int _ _, .int _ _]) Tryd.isAgg28 Tryd.sizeOf28 hsf1 rfl hx rfl (by decide)) ?_ | refine al_opd rfl rfl rfl (ao_loadsV (A := #[.int _ _, .int _ _, .int _ _, .int _ _, .int _ _, .int _ _, .int _ _, .int _ _, .int _ _, .int _ _, .int _ _, .int _ _]) Tryd.isAgg28 Tryd.sizeOf28 hsf rfl hx rfl (by decide)) ?_ | refine al_opd rfl rfl rfl (ao_loadsV (A := #[.int _ _, .int _ _, .int _ _, .int _ _, .int _ _, .int _ _, .int _ _, .int _ _, .int _ _, .int _ _, .int _ _, .int _ _]) Tryd.isAgg28 Tryd.sizeOf28 hsf2 rfl hx rfl (by decide)) ?_
      refine al_opd rfl rfl rfl (ao_alloca (zv28) (by rfl)) ?_
      first | refine al_opd rfl rfl rfl ((ao_storeL Tryd.sizeOf28 (by rfl) (by rfl) (by exact HLq) (by exact RFp) (by exact RFp) (by exact RFp)).to (SetR.eq (by exact SRp))) ?_ | refine al_opd rfl rfl rfl ((ao_storeP (ds := [.int _ _, .int _ _, .int _ _, .int _ _, .int _ _, .int _ _, .int _ _, .int _ _, .int _ _, .int _ _, .int _ _, .int _ _]) Tryd.sizeOf28 (by rfl) (by rfl) (by exact HLq) (by exact RFp) (by exact RFp) (by exact LTp)).to (SetR.eq (by exact SRp))) ?_
      refine al_nilT ?_
      refine aw_seq ?_
      refine aw_region ?_
      refine al_opd rfl rfl rfl (ao_mv (v := .slice _ _ _) rfl) ?_
      refine al_opd rfl rfl rfl (ao_mv (v := .int _ _) rfl) ?_
      first | refine al_opd rfl rfl rfl (ao_indexAddrS Tryd.underlying37 Tryd.sizeOf48 rfl rfl (by exact IXp) (by exact IXp)) ?_ | refine al_opd rfl rfl rfl (ao_indexV Tryd.underlying37 Tryd.sizeOf48 rfl rfl hsf1 (by exact IXp) (by exact IXp)) ?_ | refine al_opd rfl rfl rfl (ao_indexV Tryd.underlying37 Tryd.sizeOf48 rfl rfl hsf (by exact IXp) (by exact IXp)) ?_ | refine al_opd rfl rfl rfl (ao_indexV Tryd.underlying37 Tryd.sizeOf48 rfl rfl hsf2 (by exact IXp) (by exact IXp)) ?_
      first | refine al_opd rfl rfl rfl (ao_loada Tryd.isAgg48 Tryd.sizeOf48 rfl (by exact HLq) (by rfl) (by exact RFp)) ?_ | refine al_opd rfl rfl rfl (ao_loadsV (A := #[.int _ _, .int _ _]) Tryd.isAgg48 Tryd.sizeOf48 hsf1 rfl hx rfl (by decide)) ?_ | refine al_opd rfl rfl rfl (ao_loadsV (A := #[.int _ _, .int _ _]) Tryd.isAgg48 Tryd.sizeOf48 hsf rfl hx rfl (by decide)) ?_ | refine al_opd rfl rfl rfl (ao_loadsV (A := #[.int _ _, .int _ _]) Tryd.isAgg48 Tryd.sizeOf48 hsf2 rfl hx rfl (by decide)) ?_
      refine al_opd rfl rfl rfl ((ao_calld (l01Wall_c (r := r) (s := x) (on := true) (by exact HLq) (by omega) (by omega)) Tryd.call45 rfl rfl).to (SetR.eq (by exact SRp))) ?_
      refine al_nilT ?_
      refine aw_seq ?_
      refine aw_region ?_
      refine al_opd rfl rfl rfl (ao_calld (l01Parts_c (r := (wallR r x true)) (by exact HLq) hrx (wallR_wf hw)) Tryd.call48 rfl rfl) ?_
      first | refine al_opd rfl rfl rfl (ao_lenS Tryd.underlying34 (by rfl)) ?_ | refine al_opd rfl rfl rfl (ao_lenN Tryd.underlying34 (by rfl)) ?_ | refine al_opd rfl rfl rfl (ao_lenV Tryd.underlying34 rfl hsf1) ?_ | refine al_opd rfl rfl rfl (ao_lenV Tryd.underlying34 rfl hsf) ?_ | refine al_opd rfl rfl rfl (ao_lenV Tryd.underlying34 rfl hsf2) ?_
      refine al_opd rfl rfl rfl (ao_mv (v := .int _ _) rfl) ?_
      refine al_opd rfl rfl rfl (ao_gtr rfl rfl) ?_
      refine al_nilT ?_
      refine aw_cond rfl (fun h3_ => ?_) (fun h3_ => ?_)
      · try simp only [nrm] at h3_
        have hyy : narrowB r x = true := by rw [hna, decide_eq_true_eq]; omega
        have hsf2 : Sl ((G.push (.cells (roomC (wallR r x true)) 1)).addP (partsL (wallR r x true))) spot 2 (.slice (some ⟨H.next + 2, 0, none⟩) (freeL r).length ((freeL r).length + 1)) (freeL r) := Sl.full spot_len (by exact HLq) rfl rfl rfl
        refine aw_region ?_
        refine al_opd rfl rfl rfl (ao_mv (v := .slice _ _ _) rfl) ?_
        refine al_opd rfl rfl rfl (ao_mv (v := .slice _ _ _) rfl) ?_
        refine al_opd rfl rfl rfl (ao_mv (v := .int _ _) rfl) ?_
        first | refine al_opd rfl rfl rfl (ao_indexAddrS Tryd.underlying37 Tryd.sizeOf48 rfl rfl (by exact IXp) (by exact IXp)) ?_ | refine al_opd rfl rfl rfl (ao_indexV Tryd.underlying37 Tryd.sizeOf48 rfl rfl hsf1 (by exact IXp) (by exact IXp)) ?_ | refine al_opd rfl rfl rfl (ao_indexV Tryd.underlying37 Tryd.sizeOf48 rfl rfl hsf (by exact IXp) (by exact IXp)) ?_ | refine al_opd rfl rfl rfl (ao_indexV Tryd.underlying37 Tryd.sizeOf48 rfl rfl hsf2 (by exact IXp) (by exact IXp)) ?_
        first | refine al_opd rfl rfl rfl (ao_loada Tryd.isAgg48 Tryd.sizeOf48 rfl (by exact HLq) (by rfl) (by exact RFp)) ?_ | refine al_opd rfl rfl rfl (ao_loadsV (A := #[.int _ _, .int _ _]) Tryd.isAgg48 Tryd.sizeOf48 hsf1 rfl hx rfl (by decide)) ?_ | refine al_opd rfl rfl rfl (ao_loadsV (A := #[.int _ _, .int _ _]) Tryd.isAgg48 Tryd.sizeOf48 hsf rfl hx rfl (by decide)) ?_ | refine al_opd rfl rfl rfl (ao_loadsV (A := #[.int _ _, .int _ _]) Tryd.isAgg48 Tryd.sizeOf48 hsf2 rfl hx rfl (by decide)) ?_
        refine al_opd rfl rfl rfl (ao_lit1 (v := .agg _) Tryd.underlying37 Tryd.sizeOf48 Tryd.zeroValue48 (by rfl) (by rfl) rfl rfl (by rfl) (by exact RFp)) ?_
        refine al_opd rfl rfl rfl (ao_appC Tryd.underlying37 ⟨_, Tryd.underlying37⟩ elem48 (by rfl) (by rfl) (by exact HLq) (by (rw [fl_len spot_len, ← hn]; omega)) (by exact SCp) (by first | rfl | simp [isOne]) (by exact BDp) (by exact BDp)) ?_
        refine al_opd rfl rfl rfl (ao_as (v := .slice _ _ _) rfl) ?_
        refine al_nilB ?_
        refine thenA_n ?_
        refine aw_region ?_
        refine al_opd rfl rfl rfl (ao_mv (v := .int _ _) rfl) ?_
        first | refine al_opd rfl rfl rfl ((ao_add rfl rfl).val (nw_i64 BDp BDp)) ?_ | refine al_opd rfl rfl rfl (ao_add rfl rfl) ?_
        refine al_opd rfl rfl rfl (ao_as (v := .int _ _) rfl) ?_
        refine al_nilT ?_
        refine ⟨_, ?_, _, rfl, i + 1, _, n + 1, _, by omega, rfl, by exact SMq, by exact HLq, by exact HLq, ?_, ?_, ?_, ?_, by rw [ftake_yes hx hyy, fl_snoc]; exact (by exact HLq), by rw [ftake_yes hx hyy, List.length_append, ← hn]; rfl, Nat.le_succ _, rfl, rfl, rfl, rfl, by rfl⟩
        · omega
        · exact LNq
        · exact LNq
        · exact LNq
        · exact LNq
      · try simp only [nrm] at h3_
        have hyn : narrowB r x = false := by rw [hna, decide_eq_false_iff_not]; omega
        refine aw_skipB ?_
        refine thenA_n ?_
        refine aw_region ?_
        refine al_opd rfl rfl rfl (ao_mv (v := .int _ _) rfl) ?_
        first | refine al_opd rfl rfl rfl ((ao_add rfl rfl).val (nw_i64 BDp BDp)) ?_ | refine al_opd rfl rfl rfl (ao_add rfl rfl) ?_
        refine al_opd rfl rfl rfl (ao_as (v := .int _ _) rfl) ?_
        refine al_nilT ?_
        refine ⟨_, ?_, _, rfl, i + 1, qb, n, c, by omega, rfl, by exact SMq, by exact HLq, by exact HLq, ?_, hqb, ?_, hne, by rw [ftake_no hx hyn]; exact (by exact HLq), by rw [ftake_no hx hyn]; exact hn, hc, rfl, rfl, rfl, rfl, by rfl⟩
        · omega
        · exact LNq
        · exact LNq
    · try simp only [nrm] at h2_
      rw [List.take_of_length_le (show (freeL r).length ≤ i by omega), narrow_free] at hkb hn
      refine aw_exit ?_
      refine thenA_x ?_
      refine thenA_x ?_
      refine blockA_hit ?_
      refine thenA_n ?_
      refine aw_seq ?_
      refine aw_region ?_
      refine al_opd rfl rfl rfl (ao_mv (v := .slice _ _ _) rfl) ?_
      refine al_opd rfl rfl rfl (ao_as (v := .slice _ _ _) rfl) ?_
      refine al_opd rfl rfl rfl (ao_as (v := .int _ _) rfl) ?_
      refine al_nilT ?_
      refine aw_ret ?_
      refine ends2 rfl (rv_tmp (v := .slice _ _ _) rfl) (rv_tmp (v := .int _ _) rfl) ?_
      subst hn
      exact ⟨hG, qb, by omega, hkb, fun ρ h => vr_tup2 (vr_sl h (by omega) (by omega)) (.int _ _)⟩

end Go.Proofs.YtmmmjdbknepjgaaDoor
