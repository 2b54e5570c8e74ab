/- Contracts of the program's functions over abstract heaps. -/
import Derived.Test.YtmmmjdbknepjgaaDoorBfs9
import Derived.Test.YtmmmjdbknepjgaaDoorFr
import Derived.Test.YtmmmjdbknepjgaaDoorSt
import Derived.Test.YtmmmjdbknepjgaaDoorNr
namespace Go.Proofs.YtmmmjdbknepjgaaDoor
open Go Go.AW Go.Proofs
set_option linter.unusedVariables false
set_option linter.unusedSimpArgs false
set_option maxRecDepth 100000
set_option maxHeartbeats 2000000

-- spec.l01Has
theorem l01Has_c {v : Value} {l : List Spot} {x : Spot} {H : AHeap} (hv : Sl H spot 2 v l) (hl : l.length ≤ 1000) : ACd Tryd.prog 59 [v, .agg #[.int .i8 x.x, .int .i8 x.y]] H (.bool (decide (x ∈ l))) (H) := by
  refine ac_gc0 (fun β => VR.plainT β (by first | rfl | simp [plainT, plainV, plain1])) (ac_body Tryd.func59 rfl Tryd.ntmps59 rfl ?_)
  refine aw_seq ?_
  refine aw_region ?_
  refine al_opd rfl rfl rfl (ao_boxa (by rfl)) ?_
  refine al_opd rfl rfl rfl (ao_as (v := .bool _) rfl) ?_
  refine al_nilT ?_
  refine aw_seq ?_
  refine aw_seq ?_
  refine aw_region ?_
  refine al_opd rfl rfl rfl (ao_as (v := .int _ _) rfl) ?_
  refine al_nilT ?_
  refine aw_block ?_
  refine aw_loop (fun (gk : Nat) (fr : AFr) (G : AHeap) => ∃ get : Nat → Value, fr = ⟨18, get⟩ ∧ (∃ i : Nat, i ≤ l.length ∧ gk = l.length - i ∧ G = H.push (.cells [.int .i8 x.x, .int .i8 x.y] 1) ∧ (∀ j : Nat, j < i → l[j]? ≠ some x) ∧ get 0 = v ∧ get 3 = .pointer (some ⟨H.next, 0, none⟩) ∧ get 5 = .int .i64 i)) (l.length) ⟨_, rfl, ?_⟩ ?_
  · exact ⟨0, Nat.zero_le _, rfl, rfl, fun j hj => absurd hj (Nat.not_lt_zero j), rfl, rfl, rfl⟩
  · rintro gk fr G ⟨get, rfl, i, hi, rfl, rfl, hno, g0, g3, g5⟩
    have hs1 : Sl (H.push (.cells [.int .i8 x.x, .int .i8 x.y] 1)) spot 2 v l := hv.mono (by exact SMp)
    refine aw_slot (d := 0) (v := v) (by first | assumption | rfl) ?_
    refine aw_slot (d := 3) (v := .pointer (some ⟨H.next, 0, none⟩)) (by first | assumption | rfl) ?_
    refine aw_slot (d := 5) (v := .int .i64 i) (by first | assumption | rfl) ?_
    refine aw_seq ?_
    refine aw_seq ?_
    refine aw_region ?_
    refine al_opd rfl rfl rfl (ao_mv (v := .int _ _) rfl) ?_
    first | refine al_opd rfl rfl rfl (ao_mv (v := .slice _ _ _) rfl) ?_ | refine al_opd rfl rfl rfl (ao_mv (v := v) rfl) ?_
    first | refine al_opd rfl rfl rfl (ao_lenS Tryd.underlying37 (by rfl)) ?_ | refine al_opd rfl rfl rfl (ao_lenN Tryd.underlying37 (by rfl)) ?_ | refine al_opd rfl rfl rfl (ao_lenV Tryd.underlying37 rfl hs1) ?_
    refine al_opd rfl rfl rfl (ao_lss rfl rfl) ?_
    refine al_nilT ?_
    refine aw_cond rfl (fun h1_ => ?_) (fun h1_ => ?_)
    · try simp only [nrm] at h1_
      obtain ⟨y, hy⟩ := get_lt (show i < l.length by omega)
      refine aw_skipT ?_
      refine aw_seq ?_
      refine aw_block ?_
      refine aw_seq ?_
      refine aw_draw (m := 6) mo (by kernel_rfl) rfl (fun _ _ _ h => h) ?_
      first | refine dw_opd rfl rfl rfl (ao_mv (v := .slice _ _ _) rfl) ?_ | refine dw_opd rfl rfl rfl (ao_mv (v := v) rfl) ?_
      refine dw_opd rfl rfl rfl (ao_mv (v := .int _ _) rfl) ?_
      first | refine dw_opd rfl rfl rfl (ao_indexAddrS Tryd.underlying37 Tryd.sizeOf48 rfl rfl (by exact IXp) (by exact IXp)) ?_ | refine dw_opd rfl rfl rfl (ao_indexV Tryd.underlying37 Tryd.sizeOf48 rfl rfl hs1 (by exact IXp) (by exact IXp)) ?_
      first | refine dw_opd rfl rfl rfl (ao_loada Tryd.isAgg48 Tryd.sizeOf48 rfl (by exact HLp) (by rfl) (by exact RFp)) ?_ | refine dw_opd rfl rfl rfl (ao_loadsV (A := #[.int _ _, .int _ _]) Tryd.isAgg48 Tryd.sizeOf48 hs1 rfl hy rfl (by decide)) ?_
      first | refine dw_opd rfl rfl rfl (ao_loada Tryd.isAgg48 Tryd.sizeOf48 rfl (by exact HLp) (by rfl) (by exact RFp)) ?_ | refine dw_opd rfl rfl rfl (ao_loadsV (A := #[.int _ _, .int _ _]) Tryd.isAgg48 Tryd.sizeOf48 hs1 rfl hy rfl (by decide)) ?_
      refine dw_opd rfl rfl rfl (ao_eqV Tryd.eqGuardType48 rfl rfl rfl rfl (eqS48 _ _ _ _)) ?_
      refine dw_end ?_
      refine al_nilT ?_
      refine aw_cond rfl (fun h2_ => ?_) (fun h2_ => ?_)
      · try simp only [nrm] at h2_
        refine aw_seq ?_
        refine aw_region ?_
        refine al_opd rfl rfl rfl (ao_as (v := .bool _) rfl) ?_
        refine al_nilT ?_
        refine aw_ret ?_
        refine blockA_r ?_
        refine thenA_r ?_
        refine thenA_r ?_
        refine blockA_r ?_
        refine thenA_r ?_
        refine ends1 rfl (rv_tmp (v := .bool _) rfl) ?_
        exact ⟨by rw [decide_eq_true (by rw [← spot_ext h2_.1 h2_.2]; exact List.mem_of_getElem? hy)], by exact SMp⟩
      · try simp only [nrm] at h2_
        refine aw_skipB ?_
        refine thenA_n ?_
        refine aw_region ?_
        refine al_opd rfl rfl rfl (ao_mv (v := .int _ _) rfl) ?_
        first | refine al_opd rfl rfl rfl ((ao_add rfl rfl).val (nw_i64 BDp BDp)) ?_ | refine al_opd rfl rfl rfl (ao_add rfl rfl) ?_
        refine al_opd rfl rfl rfl (ao_as (v := .int _ _) rfl) ?_
        refine al_nilT ?_
        exact ⟨_, by omega, _, rfl, i + 1, by omega, rfl, rfl, snoc_no hno hy h2_, rfl, rfl, by rfl⟩
    · try simp only [nrm] at h1_
      refine aw_exit ?_
      refine thenA_x ?_
      refine thenA_x ?_
      refine blockA_hit ?_
      refine thenA_n ?_
      refine aw_seq ?_
      refine aw_region ?_
      refine al_opd rfl rfl rfl (ao_as (v := .bool _) rfl) ?_
      refine al_nilT ?_
      refine aw_ret ?_
      refine ends1 rfl (rv_tmp (v := .bool _) rfl) ?_
      have hnm : ¬ x ∈ l := fun hm => (by obtain ⟨j, hj, e⟩ := List.getElem_of_mem hm; exact hno j (by omega) (by rw [List.getElem?_eq_getElem hj, e]))
      exact ⟨by rw [decide_eq_false hnm], by exact SMp⟩

-- spec.l01Parts
theorem l01Parts_c {r : Room} {pb0 : Nat} {H : AHeap} (hp0 : H.blk pb0 = some (.cells (roomC r) 1)) (hr : okRoom r) (hw : wfRoom r) : ACd Tryd.prog 48 [.pointer (some ⟨pb0, 0, none⟩)] H (partsV H (partsL r)) (H.addP (partsL r)) := by
  have hltp := AHeap.lt hp0
  have hfl : (freeL r).length ≤ 100 := filter_len r (freeB r) hr.2.1 hr.2.2.2.1
  refine ac_gcp (ac_body Tryd.func48 rfl Tryd.ntmps48 rfl ?_)
  refine aw_seq ?_
  refine aw_region ?_
  refine al_opd rfl rfl rfl (ao_as (v := .slice _ _ _) rfl) ?_
  refine al_nilT ?_
  refine aw_seq ?_
  refine aw_region ?_
  refine al_opd rfl rfl rfl (ao_lit0 Tryd.underlying34 Tryd.sizeOf37 Tryd.zeroValue37 (by rfl) (by rfl) rfl) ?_
  refine al_opd rfl rfl rfl (ao_as (v := .slice _ _ _) rfl) ?_
  refine al_nilT ?_
  refine aw_seq ?_
  refine aw_region ?_
  refine al_opd rfl rfl rfl (ao_lit0 Tryd.underlying37 Tryd.sizeOf48 Tryd.zeroValue48 (by rfl) (by rfl) rfl) ?_
  refine al_opd rfl rfl rfl (ao_as (v := .slice _ _ _) rfl) ?_
  refine al_nilT ?_
  refine aw_seq ?_
  refine aw_region ?_
  refine al_opd rfl rfl rfl (ao_mv (v := .pointer _) rfl) ?_
  refine al_opd rfl rfl rfl (ao_calld (l01All_c (r := r) (by exact HLp) hr hw) Tryd.call50 rfl rfl) ?_
  refine al_opd rfl rfl rfl (ao_as (v := .slice _ _ _) rfl) ?_
  refine al_nilT ?_
  refine aw_seq ?_
  refine aw_seq ?_
  refine aw_region ?_
  refine al_opd rfl rfl rfl (ao_as (v := .int _ _) rfl) ?_
  refine al_nilT ?_
  refine aw_block ?_
  refine aw_loop (fun (gk : Nat) (fr : AFr) (G : AHeap) => ∃ get : Nat → Value, fr = ⟨38, get⟩ ∧ (∃ (i ob no co db nd cd : Nat) (bs : List Nat), i ≤ (freeL r).length ∧ gk = (freeL r).length - i ∧ Same H.next H G ∧ G.blk (H.next + 2) = some (.cells (fl spot (freeL r)) 2) ∧ H.next + 3 ≤ G.next ∧ H.next ≤ ob ∧ ob < G.next ∧ ob ≠ H.next + 2 ∧ G.blk ob = some (.cells (slC bs (partsI r i)) 1) ∧ no = (partsI r i).length ∧ no ≤ co ∧ H.next ≤ db ∧ db < G.next ∧ db ≠ H.next + 2 ∧ db ≠ ob ∧ G.blk db = some (.cells (fl spot (partsI r i).flatten) 2) ∧ nd = (partsI r i).flatten.length ∧ nd ≤ cd ∧ PH (H.next + 3) G bs (partsI r i) ∧ (¬ ob ∈ bs) ∧ (¬ db ∈ bs) ∧ get 0 = .pointer (some ⟨pb0, 0, none⟩) ∧ get 3 = .slice (some ⟨ob, 0, none⟩) no co ∧ get 4 = .slice (some ⟨db, 0, none⟩) nd cd ∧ get 5 = .slice (some ⟨H.next + 2, 0, none⟩) (freeL r).length ((freeL r).length + 1) ∧ get 6 = .int .i64 i)) ((freeL r).length) ⟨_, rfl, ?_⟩ ?_
  · refine ⟨0, H.next, 0, 0, H.next + 1, 0, 0, [], Nat.zero_le _, rfl, by exact SMp, by exact HLp, ?_, Nat.le_refl _, ?_, ?_, by exact HLp, rfl, Nat.le_refl _, ?_, ?_, ?_, ?_, by exact HLp, rfl, Nat.le_refl _, PH.nil _ _, by simp, by simp, rfl, rfl, rfl, rfl, rfl⟩ <;> exact LNp
  · rintro gk fr G ⟨get, rfl, i, ob, no, co, db, nd, cd, bs, hi, rfl, hG, hbf, hnx, hob, hlo, hof, hko, hno, hnc, hdb, hld, hdf, hdo, hkd, hnd, hdc, hPH, hbo, hbd, g0, g3, g4, g5, g6⟩
    have hsf : Sl G spot 2 (.slice (some ⟨H.next + 2, 0, none⟩) (freeL r).length ((freeL r).length + 1)) (freeL r) := Sl.full spot_len hbf rfl rfl rfl
    have hpk := parts_ok r i
    have hpl := hpk.len
    have hpf := hpk.flen
    have hp : G.blk pb0 = some (.cells (roomC r) 1) := (hG _ hltp).trans hp0
    refine aw_slot (d := 0) (v := .pointer (some ⟨pb0, 0, none⟩)) (by first | assumption | rfl) ?_
    refine aw_slot (d := 3) (v := .slice (some ⟨ob, 0, none⟩) no co) (by first | assumption | rfl) ?_
    refine aw_slot (d := 4) (v := .slice (some ⟨db, 0, none⟩) nd cd) (by first | assumption | rfl) ?_
    refine aw_slot (d := 5) (v := .slice (some ⟨H.next + 2, 0, none⟩) (freeL r).length ((freeL r).length + 1)) (by first | assumption | rfl) ?_
    refine aw_slot (d := 6) (v := .int .i64 i) (by first | assumption | rfl) ?_
    refine aw_seq ?_
    refine aw_seq ?_
    refine aw_region ?_
    refine al_opd rfl rfl rfl (ao_mv (v := .int _ _) rfl) ?_
    refine al_opd rfl rfl rfl (ao_mv (v := .slice _ _ _) rfl) ?_
    first | refine al_opd rfl rfl rfl (ao_lenS Tryd.underlying37 (by rfl)) ?_ | refine al_opd rfl rfl rfl (ao_lenN Tryd.underlying37 (by rfl)) ?_ | refine al_opd rfl rfl rfl (ao_lenV Tryd.underlying37 rfl hsf) ?_
    refine al_opd rfl rfl rfl (ao_lss rfl rfl) ?_
    refine al_nilT ?_
    refine aw_cond rfl (fun h1_ => ?_) (fun h1_ => ?_)
    · try simp only [nrm] at h1_
      obtain ⟨x, hx⟩ := get_lt (show i < (freeL r).length by omega)
      have hfx := free_at hx
      have hwx := wf_of_free hfx
      have hnl := nearL_le 100 hfx
      refine aw_skipT ?_
      refine aw_seq ?_
      refine aw_block ?_
      refine aw_seq ?_
      refine aw_seq ?_
      refine aw_region ?_
      refine al_opd rfl rfl rfl (ao_mv (v := .slice _ _ _) rfl) ?_
      refine al_opd rfl rfl rfl (ao_mv (v := .slice _ _ _) rfl) ?_
      refine al_opd rfl rfl rfl (ao_mv (v := .int _ _) rfl) ?_
      first | refine al_opd rfl rfl rfl (ao_indexAddrS Tryd.underlying37 Tryd.sizeOf48 rfl rfl (by exact IXp) (by exact IXp)) ?_ | refine al_opd rfl rfl rfl (ao_indexV Tryd.underlying37 Tryd.sizeOf48 rfl rfl hsf (by exact IXp) (by exact IXp)) ?_
      first | refine al_opd rfl rfl rfl (ao_loada Tryd.isAgg48 Tryd.sizeOf48 rfl (by exact HLp) (by rfl) (by exact RFp)) ?_ | refine al_opd rfl rfl rfl (ao_loadsV (A := #[.int _ _, .int _ _]) Tryd.isAgg48 Tryd.sizeOf48 hsf rfl hx rfl (by decide)) ?_
      refine al_opd rfl rfl rfl (ao_calld (l01Has_c (l := (partsI r i).flatten) (x := x) (Sl.full spot_len hkd rfl rfl hnd) (by omega)) Tryd.call59 rfl rfl) ?_
      refine al_nilT ?_
      refine aw_cond rfl (fun h2_ => ?_) (fun h2_ => ?_)
      · try simp only [nrm] at h2_
        refine aw_exit ?_
        refine thenA_x ?_
        refine blockA_hit ?_
        refine thenA_n ?_
        refine aw_region ?_
        refine al_opd rfl rfl rfl (ao_mv (v := .int _ _) rfl) ?_
        first | refine al_opd rfl rfl rfl ((ao_add rfl rfl).val (nw_i64 BDp BDp)) ?_ | refine al_opd rfl rfl rfl (ao_add rfl rfl) ?_
        refine al_opd rfl rfl rfl (ao_as (v := .int _ _) rfl) ?_
        refine al_nilT ?_
        exact ⟨_, by omega, _, rfl, i + 1, ob, no, co, db, nd, cd, bs, by omega, rfl, hG, hbf, hnx, hob, hlo, hof, by rw [parts_yes hx h2_]; exact hko, by rw [parts_yes hx h2_]; exact hno, hnc, hdb, hld, hdf, hdo, by rw [parts_yes hx h2_]; exact hkd, by rw [parts_yes hx h2_]; exact hnd, hdc, by rw [parts_yes hx h2_]; exact hPH, hbo, hbd, rfl, rfl, rfl, rfl, by rfl⟩
      · try simp only [nrm] at h2_
        refine aw_skipT ?_
        refine aw_seq ?_
        refine aw_region ?_
        refine al_opd rfl rfl rfl (ao_mv (v := .pointer _) rfl) ?_
        refine al_opd rfl rfl rfl (ao_mv (v := .slice _ _ _) rfl) ?_
        refine al_opd rfl rfl rfl (ao_mv (v := .int _ _) rfl) ?_
        first | refine al_opd rfl rfl rfl (ao_indexAddrS Tryd.underlying37 Tryd.sizeOf48 rfl rfl (by exact IXp) (by exact IXp)) ?_ | refine al_opd rfl rfl rfl (ao_indexV Tryd.underlying37 Tryd.sizeOf48 rfl rfl hsf (by exact IXp) (by exact IXp)) ?_
        first | refine al_opd rfl rfl rfl (ao_loada Tryd.isAgg48 Tryd.sizeOf48 rfl (by exact HLp) (by rfl) (by exact RFp)) ?_ | refine al_opd rfl rfl rfl (ao_loadsV (A := #[.int _ _, .int _ _]) Tryd.isAgg48 Tryd.sizeOf48 hsf rfl hx rfl (by decide)) ?_
        refine al_opd rfl rfl rfl (ao_calld (l01Near_c (r := r) (s := x) (k := 100) (by exact HLp) hr hw hwx hfx) Tryd.call68 rfl rfl) ?_
        refine al_opd rfl rfl rfl (ao_as (v := .slice _ _ _) rfl) ?_
        refine al_nilT ?_
        refine aw_seq ?_
        refine aw_region ?_
        refine al_opd rfl rfl rfl (ao_mv (v := .slice _ _ _) rfl) ?_
        refine al_opd rfl rfl rfl (ao_mv (v := .slice _ _ _) rfl) ?_
        refine al_opd rfl rfl rfl (ao_appC Tryd.underlying37 ⟨_, Tryd.underlying37⟩ elem48 (by rfl) (by rfl) (by exact HLp) (by first | (rw [fl_len spot_len, ← hnd]; omega) | (rw [slC_len hPH.len, ← hno]; omega)) (by first | exact src_all (by exact HLp) (by rfl) (by rfl) | exact src_all (by exact HLp) (by rfl) (fl_len spot_len _)) (by first | rfl | exact spots_one _ | simp [isOne]) (by exact BDp) (by exact BDp)) ?_
        refine al_opd rfl rfl rfl (ao_as (v := .slice _ _ _) rfl) ?_
        refine al_nilT ?_
        refine aw_region ?_
        refine al_opd rfl rfl rfl (ao_mv (v := .slice _ _ _) rfl) ?_
        refine al_opd rfl rfl rfl (ao_mv (v := .slice _ _ _) rfl) ?_
        refine al_opd rfl rfl rfl (ao_lit1 (v := .slice _ _ _) Tryd.underlying34 Tryd.sizeOf37 Tryd.zeroValue37 (by rfl) (by rfl) rfl rfl (by rfl) (by exact RFp)) ?_
        refine al_opd rfl rfl rfl (ao_appC Tryd.underlying34 ⟨_, Tryd.underlying34⟩ elem37 (by rfl) (by rfl) (by exact HLp) (by first | (rw [fl_len spot_len, ← hnd]; omega) | (rw [slC_len hPH.len, ← hno]; omega)) (by first | exact src_all (by exact HLp) (by rfl) (by rfl) | exact src_all (by exact HLp) (by rfl) (fl_len spot_len _)) (by first | rfl | exact spots_one _ | simp [isOne]) (by exact BDp) (by exact BDp)) ?_
        refine al_opd rfl rfl rfl (ao_as (v := .slice _ _ _) rfl) ?_
        refine al_nilB ?_
        refine thenA_n ?_
        refine aw_region ?_
        refine al_opd rfl rfl rfl (ao_mv (v := .int _ _) rfl) ?_
        first | refine al_opd rfl rfl rfl ((ao_add rfl rfl).val (nw_i64 BDp BDp)) ?_ | refine al_opd rfl rfl rfl (ao_add rfl rfl) ?_
        refine al_opd rfl rfl rfl (ao_as (v := .int _ _) rfl) ?_
        refine al_nilT ?_
        have hpb : ¬ G.next ∈ bs := hPH.nx (Nat.le_refl _)
        have hP1 := (((((((hPH.push (.cells (fl spot (nearL r x 100)) 2)).add (b := G.next) hpb (by omega) (blk_push_new _ _)).kill (not_snoc hbd (by omega))).push (.cells (fl spot (partsI r i).flatten ++ fl spot (nearL r x 100)) 2)).push (.cells [slV G.next (nearL r x 100)] 1)).kill (not_snoc hbo (by omega))).push (.cells (slC bs (partsI r i) ++ [slV G.next (nearL r x 100)]) 1))
        refine ⟨_, ?_, _, rfl, i + 1, _, no + 1, _, _, nd + (nearL r x 100).length, _, bs ++ [G.next], by omega, rfl, by exact SMp, by exact HLp, ?_, ?_, ?_, ?_, by rw [parts_no hx h2_, slC_snoc hPH.len]; exact (by exact HLp), by rw [parts_no hx h2_, List.length_append, ← hno]; rfl, Nat.le_succ _, ?_, ?_, ?_, ?_, by rw [parts_flat hx h2_, fl_app]; exact (by exact HLp), by rw [parts_flat hx h2_, List.length_append, ← hnd], Nat.le_succ _, by rw [parts_no hx h2_]; exact hP1, ?_, ?_, rfl, rfl, rfl, rfl, by rfl⟩
        · omega
        · exact LNp
        · exact LNp
        · exact LNp
        · exact LNp
        · exact LNp
        · exact LNp
        · exact LNp
        · exact LNp
        · exact not_snoc (hPH.nx (by exact LNp)) (by exact LNp)
        · exact not_snoc (hPH.nx (by exact LNp)) (by exact LNp)
    · try simp only [nrm] at h1_
      refine aw_exit ?_
      refine thenA_x ?_
      refine thenA_x ?_
      refine blockA_hit ?_
      refine thenA_n ?_
      refine aw_seq ?_
      refine aw_region ?_
      refine al_opd rfl rfl rfl (ao_mv (v := .slice _ _ _) rfl) ?_
      refine al_opd rfl rfl rfl (ao_as (v := .slice _ _ _) rfl) ?_
      refine al_nilT ?_
      refine aw_ret ?_
      refine ends1 rfl (rv_tmp (v := .slice _ _ _) rfl) ?_
      rw [parts_end (by omega)] at hko hno hPH
      exact ⟨hG, bs, hPH.weak (by omega), ob, co, by omega, hlo, hbo, by omega, by rw [hno], hko⟩

-- (impl.Room).parts
theorem implParts_c {r : Room} {H : AHeap} (hr : okRoom r) (hw : wfRoom r) : ACd Tryd.prog 47 [.agg (roomC r).toArray] H (partsV H (partsL r)) (H.addP (partsL r)) := by
  have hfl : (freeL r).length ≤ 100 := filter_len r (freeB r) hr.2.1 hr.2.2.2.1
  refine ac_gcp (ac_body Tryd.func47 rfl Tryd.ntmps47 rfl ?_)
  refine aw_seq ?_
  refine aw_region ?_
  refine al_opd rfl rfl rfl (ao_boxa (by rfl)) ?_
  refine al_opd rfl rfl rfl (ao_as (v := .slice _ _ _) rfl) ?_
  refine al_nilT ?_
  refine aw_seq ?_
  refine aw_region ?_
  refine al_opd rfl rfl rfl (ao_lit0 Tryd.underlying34 Tryd.sizeOf37 Tryd.zeroValue37 (by rfl) (by rfl) rfl) ?_
  refine al_opd rfl rfl rfl (ao_makeMap) ?_
  refine al_opd rfl rfl rfl (ao_as (v := .slice _ _ _) rfl) ?_
  refine al_opd rfl rfl rfl (ao_as (v := .map _) rfl) ?_
  refine al_nilT ?_
  refine aw_seq ?_
  refine aw_seq ?_
  refine aw_region ?_
  first | refine al_opd rfl rfl rfl (ao_loada Tryd.isAgg28 Tryd.sizeOf28 rfl (by exact HLp) (by rfl) (by exact RFp)) ?_ | refine al_opd rfl rfl rfl (ao_loadsV (A := #[.int _ _, .int _ _, .int _ _, .int _ _, .int _ _, .int _ _, .int _ _, .int _ _, .int _ _, .int _ _, .int _ _, .int _ _]) Tryd.isAgg28 Tryd.sizeOf28 hsf rfl hx rfl (by decide)) ?_ | refine al_opd rfl rfl rfl (ao_loadsV (A := #[.int _ _, .int _ _, .int _ _, .int _ _, .int _ _, .int _ _, .int _ _, .int _ _, .int _ _, .int _ _, .int _ _, .int _ _]) Tryd.isAgg28 Tryd.sizeOf28 hsf rfl hy rfl (by decide)) ?_ | refine al_opd rfl rfl rfl (ao_loadsV (A := #[.int _ _, .int _ _, .int _ _, .int _ _, .int _ _, .int _ _, .int _ _, .int _ _, .int _ _, .int _ _, .int _ _, .int _ _]) Tryd.isAgg28 Tryd.sizeOf28 hsp rfl hx rfl (by decide)) ?_ | refine al_opd rfl rfl rfl (ao_loadsV (A := #[.int _ _, .int _ _, .int _ _, .int _ _, .int _ _, .int _ _, .int _ _, .int _ _, .int _ _, .int _ _, .int _ _, .int _ _]) Tryd.isAgg28 Tryd.sizeOf28 hsp rfl hy rfl (by decide)) ?_
  refine al_opd rfl rfl rfl (ao_calld (implFreeL_c (r := r) hr hw) Tryd.call49 rfl rfl) ?_
  first | refine al_opd rfl rfl rfl (ao_lenS Tryd.underlying37 (by rfl)) ?_ | refine al_opd rfl rfl rfl (ao_lenN Tryd.underlying37 (by rfl)) ?_ | refine al_opd rfl rfl rfl (ao_lenV Tryd.underlying37 rfl hsf) ?_ | refine al_opd rfl rfl rfl (ao_lenV Tryd.underlying37 rfl hsp) ?_
  refine al_opd rfl rfl rfl (ao_mv (v := .int _ _) rfl) ?_
  refine al_nilT ?_
  refine aw_block ?_
  refine aw_loop (fun (gk : Nat) (fr : AFr) (G : AHeap) => ∃ get : Nat → Value, fr = ⟨40, get⟩ ∧ (∃ (i ob no co : Nat) (bs : List Nat), i ≤ (freeL r).length ∧ gk = (freeL r).length - i ∧ H.next + 1 ≤ ob ∧ ob ≠ H.next + 2 ∧ ob ≠ H.next + 3 ∧ no = (partsI r i).length ∧ no ≤ co ∧ (¬ ob ∈ bs) ∧ Same H.next H G ∧ G.blk H.next = some (.cells (roomC r) 1) ∧ G.blk (H.next + 2) = some (mapT (partsI r i).flatten) ∧ G.blk (H.next + 3) = some (.cells (fl spot (freeL r)) 2) ∧ H.next + 4 ≤ G.next ∧ ob < G.next ∧ G.blk ob = some (.cells (slC bs (partsI r i)) 1) ∧ PH (H.next + 4) G bs (partsI r i) ∧ get 1 = .pointer (some ⟨H.next, 0, none⟩) ∧ get 3 = .slice (some ⟨ob, 0, none⟩) no co ∧ get 4 = .map (some (H.next + 2)) ∧ get 13 = .slice (some ⟨H.next + 3, 0, none⟩) (freeL r).length ((freeL r).length + 1) ∧ get 14 = .int .i64 (freeL r).length ∧ get 15 = .int .i64 i)) ((freeL r).length) ⟨_, rfl, ?_⟩ ?_
  · refine ⟨0, H.next + 1, 0, 0, [], Nat.zero_le _, rfl, Nat.le_refl _, ?_, ?_, rfl, Nat.le_refl _, by simp, by exact SMp, by exact HLp, by exact HLp, by exact HLp, ?_, ?_, by exact HLp, PH.nil _ _, rfl, rfl, rfl, rfl, rfl, rfl⟩ <;> exact LNp
  · rintro gk fr G ⟨get, rfl, i, ob, no, co, bs, hi, rfl, hob, hof, hof3, hno, hnc, hbo, hG, hbr, hbm, hbf, hnx, hlo, hko, hPH, g1, g3, g4, g13, g14, g15⟩
    have hsf : Sl G spot 2 (.slice (some ⟨H.next + 3, 0, none⟩) (freeL r).length ((freeL r).length + 1)) (freeL r) := Sl.full spot_len hbf rfl rfl rfl
    have hpk := parts_ok r i
    have hpl := hpk.len
    have hpf := hpk.flen
    refine aw_slot (d := 1) (v := .pointer (some ⟨H.next, 0, none⟩)) (by first | assumption | rfl) ?_
    refine aw_slot (d := 3) (v := .slice (some ⟨ob, 0, none⟩) no co) (by first | assumption | rfl) ?_
    refine aw_slot (d := 4) (v := .map (some (H.next + 2))) (by first | assumption | rfl) ?_
    refine aw_slot (d := 13) (v := .slice (some ⟨H.next + 3, 0, none⟩) (freeL r).length ((freeL r).length + 1)) (by first | assumption | rfl) ?_
    refine aw_slot (d := 14) (v := .int .i64 (freeL r).length) (by first | assumption | rfl) ?_
    refine aw_slot (d := 15) (v := .int .i64 i) (by first | assumption | rfl) ?_
    refine aw_seq ?_
    refine aw_region ?_
    refine al_opd rfl rfl rfl (ao_lss rfl rfl) ?_
    refine al_nilT ?_
    refine aw_seq ?_
    refine aw_cond rfl (fun h1_ => ?_) (fun h1_ => ?_)
    · try simp only [nrm] at h1_
      obtain ⟨x, hx⟩ := get_lt (show i < (freeL r).length by omega)
      have hfx := free_at hx
      have hwx := wf_of_free hfx
      have hnl := nearL_le 100 hfx
      refine aw_skipT ?_
      refine aw_seq ?_
      refine aw_block ?_
      refine aw_seq ?_
      refine aw_region ?_
      first | refine al_opd rfl rfl rfl (ao_indexAddrS Tryd.underlying37 Tryd.sizeOf48 rfl rfl (by exact IXp) (by exact IXp)) ?_ | refine al_opd rfl rfl rfl (ao_indexV Tryd.underlying37 Tryd.sizeOf48 rfl rfl hsf (by exact IXp) (by exact IXp)) ?_ | refine al_opd rfl rfl rfl (ao_indexV Tryd.underlying37 Tryd.sizeOf48 rfl rfl hsp (by exact IXp) (by exact IXp)) ?_
      first | refine al_opd rfl rfl rfl (ao_loada Tryd.isAgg48 Tryd.sizeOf48 rfl (by exact HLp) (by rfl) (by exact RFp)) ?_ | refine al_opd rfl rfl rfl (ao_loadsV (A := #[.int _ _, .int _ _]) Tryd.isAgg48 Tryd.sizeOf48 hsf rfl hx rfl (by decide)) ?_ | refine al_opd rfl rfl rfl (ao_loadsV (A := #[.int _ _, .int _ _]) Tryd.isAgg48 Tryd.sizeOf48 hsf rfl hy rfl (by decide)) ?_ | refine al_opd rfl rfl rfl (ao_loadsV (A := #[.int _ _, .int _ _]) Tryd.isAgg48 Tryd.sizeOf48 hsp rfl hx rfl (by decide)) ?_ | refine al_opd rfl rfl rfl (ao_loadsV (A := #[.int _ _, .int _ _]) Tryd.isAgg48 Tryd.sizeOf48 hsp rfl hy rfl (by decide)) ?_
      refine al_opd rfl rfl rfl (ao_alloca (zv48) (by rfl)) ?_
      first | refine al_opd rfl rfl rfl ((ao_storeL Tryd.sizeOf48 (by rfl) (by rfl) (by exact HLp) (by exact RFp) (by exact RFp) (by exact RFp)).to (SetR.eq (by exact SRp))) ?_ | refine al_opd rfl rfl rfl ((ao_storeP (ds := [.int _ _, .int _ _]) Tryd.sizeOf48 (by rfl) (by rfl) (by exact HLp) (by exact RFp) (by exact RFp) (by exact LTp)).to (SetR.eq (by exact SRp))) ?_
      refine al_nilT ?_
      refine aw_seq ?_
      refine aw_seq ?_
      refine aw_region ?_
      refine al_opd rfl rfl rfl (ao_mv (v := .map _) rfl) ?_
      first | refine al_opd rfl rfl rfl (ao_loada Tryd.isAgg48 Tryd.sizeOf48 rfl (by exact HLp) (by rfl) (by exact RFp)) ?_ | refine al_opd rfl rfl rfl (ao_loadsV (A := #[.int _ _, .int _ _]) Tryd.isAgg48 Tryd.sizeOf48 hsf rfl hx rfl (by decide)) ?_ | refine al_opd rfl rfl rfl (ao_loadsV (A := #[.int _ _, .int _ _]) Tryd.isAgg48 Tryd.sizeOf48 hsf rfl hy rfl (by decide)) ?_ | refine al_opd rfl rfl rfl (ao_loadsV (A := #[.int _ _, .int _ _]) Tryd.isAgg48 Tryd.sizeOf48 hsp rfl hx rfl (by decide)) ?_ | refine al_opd rfl rfl rfl (ao_loadsV (A := #[.int _ _, .int _ _]) Tryd.isAgg48 Tryd.sizeOf48 hsp rfl hy rfl (by decide)) ?_
      refine al_opd rfl rfl rfl (ao_look1 (m := trM (partsI r i).flatten) (k := x) (ok := decide (x ∈ (partsI r i).flatten)) (u := .bool (decide (x ∈ (partsI r i).flatten))) (ke := spV) (ve := bV) Tryd.underlying88 keySpot_c (fun _ => rfl) Tryd.zeroValue4 (by rfl) (by rfl) (by rfl) (by exact HLp) (look_tr _ _)) ?_
      refine al_nilT ?_
      refine aw_cond rfl (fun h2_ => ?_) (fun h2_ => ?_)
      · try simp only [nrm] at h2_
        have hmem : x ∈ (partsI r i).flatten := h2_
        refine aw_exit ?_
        refine thenA_x ?_
        refine blockA_hit ?_
        refine thenA_n ?_
        refine aw_region ?_
        first | refine al_opd rfl rfl rfl ((ao_add rfl rfl).val (nw_i64 BDp BDp)) ?_ | refine al_opd rfl rfl rfl (ao_add rfl rfl) ?_
        refine al_opd rfl rfl rfl (ao_mv (v := .int _ _) rfl) ?_
        refine al_nilT ?_
        exact ⟨_, by omega, _, rfl, i + 1, ob, no, co, bs, by omega, rfl, hob, hof, hof3, by rw [parts_yes hx hmem]; exact hno, hnc, hbo, by exact SMp, by exact HLp, by rw [parts_yes hx hmem]; exact (by exact HLp), by exact HLp, (by exact LNp), (by exact LNp), by rw [parts_yes hx hmem]; exact (by exact HLp), by rw [parts_yes hx hmem]; exact hPH.push _, rfl, rfl, rfl, rfl, rfl, by rfl⟩
      · try simp only [nrm] at h2_
        have hnm : ¬ x ∈ (partsI r i).flatten := h2_
        refine aw_skipT ?_
        refine aw_seq ?_
        refine aw_region ?_
        first | refine al_opd rfl rfl rfl (ao_loada Tryd.isAgg28 Tryd.sizeOf28 rfl (by exact HLp) (by rfl) (by exact RFp)) ?_ | refine al_opd rfl rfl rfl (ao_loadsV (A := #[.int _ _, .int _ _, .int _ _, .int _ _, .int _ _, .int _ _, .int _ _, .int _ _, .int _ _, .int _ _, .int _ _, .int _ _]) Tryd.isAgg28 Tryd.sizeOf28 hsf rfl hx rfl (by decide)) ?_ | refine al_opd rfl rfl rfl (ao_loadsV (A := #[.int _ _, .int _ _, .int _ _, .int _ _, .int _ _, .int _ _, .int _ _, .int _ _, .int _ _, .int _ _, .int _ _, .int _ _]) Tryd.isAgg28 Tryd.sizeOf28 hsf rfl hy rfl (by decide)) ?_ | refine al_opd rfl rfl rfl (ao_loadsV (A := #[.int _ _, .int _ _, .int _ _, .int _ _, .int _ _, .int _ _, .int _ _, .int _ _, .int _ _, .int _ _, .int _ _, .int _ _]) Tryd.isAgg28 Tryd.sizeOf28 hsp rfl hx rfl (by decide)) ?_ | refine al_opd rfl rfl rfl (ao_loadsV (A := #[.int _ _, .int _ _, .int _ _, .int _ _, .int _ _, .int _ _, .int _ _, .int _ _, .int _ _, .int _ _, .int _ _, .int _ _]) Tryd.isAgg28 Tryd.sizeOf28 hsp rfl hy rfl (by decide)) ?_
        first | refine al_opd rfl rfl rfl (ao_loada Tryd.isAgg48 Tryd.sizeOf48 rfl (by exact HLp) (by rfl) (by exact RFp)) ?_ | refine al_opd rfl rfl rfl (ao_loadsV (A := #[.int _ _, .int _ _]) Tryd.isAgg48 Tryd.sizeOf48 hsf rfl hx rfl (by decide)) ?_ | refine al_opd rfl rfl rfl (ao_loadsV (A := #[.int _ _, .int _ _]) Tryd.isAgg48 Tryd.sizeOf48 hsf rfl hy rfl (by decide)) ?_ | refine al_opd rfl rfl rfl (ao_loadsV (A := #[.int _ _, .int _ _]) Tryd.isAgg48 Tryd.sizeOf48 hsp rfl hx rfl (by decide)) ?_ | refine al_opd rfl rfl rfl (ao_loadsV (A := #[.int _ _, .int _ _]) Tryd.isAgg48 Tryd.sizeOf48 hsp rfl hy rfl (by decide)) ?_
        refine al_opd rfl rfl rfl (ao_calld (implNear_c (r := r) (s := x) (k := 100) hr hw hwx hfx) Tryd.call57 rfl rfl) ?_
        refine al_opd rfl rfl rfl (ao_as (v := .slice _ _ _) rfl) ?_
        refine al_nilT ?_
        refine aw_seq ?_
        refine aw_seq ?_
        refine aw_region ?_
        refine al_opd rfl rfl rfl (ao_mv (v := .slice _ _ _) rfl) ?_
        first | refine al_opd rfl rfl rfl (ao_lenS Tryd.underlying37 (by rfl)) ?_ | refine al_opd rfl rfl rfl (ao_lenN Tryd.underlying37 (by rfl)) ?_ | refine al_opd rfl rfl rfl (ao_lenV Tryd.underlying37 rfl hsf) ?_ | refine al_opd rfl rfl rfl (ao_lenV Tryd.underlying37 rfl hsp) ?_
        refine al_opd rfl rfl rfl (ao_mv (v := .int _ _) rfl) ?_
        refine al_nilT ?_
        refine aw_block ?_
        refine aw_loop (fun (gk : Nat) (fr : AFr) (G : AHeap) => ∃ get : Nat → Value, fr = ⟨40, get⟩ ∧ (∃ (k pb : Nat), k ≤ (nearL r x 100).length ∧ gk = (nearL r x 100).length - k ∧ H.next + 4 ≤ pb ∧ pb < G.next ∧ pb ≠ ob ∧ (¬ pb ∈ bs) ∧ G.blk pb = some (.cells (fl spot (nearL r x 100)) 2) ∧ Same H.next H G ∧ G.blk H.next = some (.cells (roomC r) 1) ∧ G.blk (H.next + 2) = some (mapT ((partsI r i).flatten ++ (nearL r x 100).take k)) ∧ G.blk (H.next + 3) = some (.cells (fl spot (freeL r)) 2) ∧ H.next + 4 ≤ G.next ∧ ob < G.next ∧ G.blk ob = some (.cells (slC bs (partsI r i)) 1) ∧ PH (H.next + 4) G bs (partsI r i) ∧ get 1 = .pointer (some ⟨H.next, 0, none⟩) ∧ get 3 = .slice (some ⟨ob, 0, none⟩) no co ∧ get 4 = .map (some (H.next + 2)) ∧ get 13 = .slice (some ⟨H.next + 3, 0, none⟩) (freeL r).length ((freeL r).length + 1) ∧ get 14 = .int .i64 (freeL r).length ∧ get 15 = .int .i64 i ∧ get 7 = .slice (some ⟨pb, 0, none⟩) (nearL r x 100).length ((nearL r x 100).length + 1) ∧ get 25 = .slice (some ⟨pb, 0, none⟩) (nearL r x 100).length ((nearL r x 100).length + 1) ∧ get 26 = .int .i64 (nearL r x 100).length ∧ get 27 = .int .i64 k)) ((nearL r x 100).length) ⟨_, rfl, ?_⟩ ?_
        · refine ⟨0, _, Nat.zero_le _, rfl, ?_, ?_, ?_, ?_, by exact HLp, by exact SMp, by exact HLp, by rw [List.take_zero, List.append_nil]; exact (by exact HLp), by exact HLp, ?_, ?_, by exact HLp, (hPH.push _).push _, rfl, rfl, rfl, rfl, rfl, rfl, rfl, rfl, rfl, rfl⟩ <;> (first | (exact (hPH.push _).nx (by omega)) | (exact hPH.nx (by exact LNp)) | omega | (simp only [next_push, next_set, next_kill]; omega))
        · rintro gk fr G ⟨get, rfl, k, pb, hk, rfl, hpb, hlp, hpo, hbp, hkp, hG, hbr, hbm, hbf, hnx, hlo, hko, hPH2, g1, g3, g4, g13, g14, g15, g7, g25, g26, g27⟩
          have hsp : Sl G spot 2 (.slice (some ⟨pb, 0, none⟩) (nearL r x 100).length ((nearL r x 100).length + 1)) (nearL r x 100) := Sl.full spot_len hkp rfl rfl rfl
          refine aw_slot (d := 1) (v := .pointer (some ⟨H.next, 0, none⟩)) (by first | assumption | rfl) ?_
          refine aw_slot (d := 3) (v := .slice (some ⟨ob, 0, none⟩) no co) (by first | assumption | rfl) ?_
          refine aw_slot (d := 4) (v := .map (some (H.next + 2))) (by first | assumption | rfl) ?_
          refine aw_slot (d := 13) (v := .slice (some ⟨H.next + 3, 0, none⟩) (freeL r).length ((freeL r).length + 1)) (by first | assumption | rfl) ?_
          refine aw_slot (d := 14) (v := .int .i64 (freeL r).length) (by first | assumption | rfl) ?_
          refine aw_slot (d := 15) (v := .int .i64 i) (by first | assumption | rfl) ?_
          refine aw_slot (d := 7) (v := .slice (some ⟨pb, 0, none⟩) (nearL r x 100).length ((nearL r x 100).length + 1)) (by first | assumption | rfl) ?_
          refine aw_slot (d := 25) (v := .slice (some ⟨pb, 0, none⟩) (nearL r x 100).length ((nearL r x 100).length + 1)) (by first | assumption | rfl) ?_
          refine aw_slot (d := 26) (v := .int .i64 (nearL r x 100).length) (by first | assumption | rfl) ?_
          refine aw_slot (d := 27) (v := .int .i64 k) (by first | assumption | rfl) ?_
          refine aw_seq ?_
          refine aw_region ?_
          refine al_opd rfl rfl rfl (ao_lss rfl rfl) ?_
          refine al_nilT ?_
          refine aw_seq ?_
          refine aw_cond rfl (fun h3_ => ?_) (fun h3_ => ?_)
          · try simp only [nrm] at h3_
            obtain ⟨y, hy⟩ := get_lt (show k < (nearL r x 100).length by omega)
            refine aw_skipT ?_
            refine aw_seq ?_
            refine aw_block ?_
            refine aw_seq ?_
            refine aw_region ?_
            first | refine al_opd rfl rfl rfl (ao_indexAddrS Tryd.underlying37 Tryd.sizeOf48 rfl rfl (by exact IXp) (by exact IXp)) ?_ | refine al_opd rfl rfl rfl (ao_indexV Tryd.underlying37 Tryd.sizeOf48 rfl rfl hsf (by exact IXp) (by exact IXp)) ?_ | refine al_opd rfl rfl rfl (ao_indexV Tryd.underlying37 Tryd.sizeOf48 rfl rfl hsp (by exact IXp) (by exact IXp)) ?_
            first | refine al_opd rfl rfl rfl (ao_loada Tryd.isAgg48 Tryd.sizeOf48 rfl (by exact HLp) (by rfl) (by exact RFp)) ?_ | refine al_opd rfl rfl rfl (ao_loadsV (A := #[.int _ _, .int _ _]) Tryd.isAgg48 Tryd.sizeOf48 hsf rfl hx rfl (by decide)) ?_ | refine al_opd rfl rfl rfl (ao_loadsV (A := #[.int _ _, .int _ _]) Tryd.isAgg48 Tryd.sizeOf48 hsf rfl hy rfl (by decide)) ?_ | refine al_opd rfl rfl rfl (ao_loadsV (A := #[.int _ _, .int _ _]) Tryd.isAgg48 Tryd.sizeOf48 hsp rfl hx rfl (by decide)) ?_ | refine al_opd rfl rfl rfl (ao_loadsV (A := #[.int _ _, .int _ _]) Tryd.isAgg48 Tryd.sizeOf48 hsp rfl hy rfl (by decide)) ?_
            refine al_opd rfl rfl rfl (ao_alloca (zv48) (by rfl)) ?_
            first | refine al_opd rfl rfl rfl ((ao_storeL Tryd.sizeOf48 (by rfl) (by rfl) (by exact HLp) (by exact RFp) (by exact RFp) (by exact RFp)).to (SetR.eq (by exact SRp))) ?_ | refine al_opd rfl rfl rfl ((ao_storeP (ds := [.int _ _, .int _ _]) Tryd.sizeOf48 (by rfl) (by rfl) (by exact HLp) (by exact RFp) (by exact RFp) (by exact LTp)).to (SetR.eq (by exact SRp))) ?_
            refine al_nilT ?_
            refine aw_region ?_
            refine al_opd rfl rfl rfl (ao_mv (v := .map _) rfl) ?_
            first | refine al_opd rfl rfl rfl (ao_loada Tryd.isAgg48 Tryd.sizeOf48 rfl (by exact HLp) (by rfl) (by exact RFp)) ?_ | refine al_opd rfl rfl rfl (ao_loadsV (A := #[.int _ _, .int _ _]) Tryd.isAgg48 Tryd.sizeOf48 hsf rfl hx rfl (by decide)) ?_ | refine al_opd rfl rfl rfl (ao_loadsV (A := #[.int _ _, .int _ _]) Tryd.isAgg48 Tryd.sizeOf48 hsf rfl hy rfl (by decide)) ?_ | refine al_opd rfl rfl rfl (ao_loadsV (A := #[.int _ _, .int _ _]) Tryd.isAgg48 Tryd.sizeOf48 hsp rfl hx rfl (by decide)) ?_ | refine al_opd rfl rfl rfl (ao_loadsV (A := #[.int _ _, .int _ _]) Tryd.isAgg48 Tryd.sizeOf48 hsp rfl hy rfl (by decide)) ?_
            refine al_opd rfl rfl rfl (ao_mapPut (m := trM ((partsI r i).flatten ++ (nearL r x 100).take k)) (k := y) (v := true) (ke := spV) (ve := bV) Tryd.underlying88 keySpot_c (fun _ => rfl) (by rfl) (by rfl) (by rfl) (by exact HLp) (tr_no (new_at hx hnm hy))) ?_
            refine al_nilB ?_
            refine thenA_n ?_
            refine aw_region ?_
            first | refine al_opd rfl rfl rfl ((ao_add rfl rfl).val (nw_i64 BDp BDp)) ?_ | refine al_opd rfl rfl rfl (ao_add rfl rfl) ?_
            refine al_opd rfl rfl rfl (ao_mv (v := .int _ _) rfl) ?_
            refine al_nilT ?_
            exact ⟨_, by omega, _, rfl, k + 1, pb, by omega, rfl, hpb, (by exact LNp), hpo, hbp, by exact HLp, by exact SMp, by exact HLp, by rw [tr_take hy]; exact (by exact HLp), by exact HLp, (by exact LNp), (by exact LNp), by exact HLp, (hPH2.push _).set (hPH2.lo (by omega)), rfl, rfl, rfl, rfl, rfl, rfl, rfl, rfl, rfl, by rfl⟩
          · try simp only [nrm] at h3_
            rw [List.take_of_length_le (show (nearL r x 100).length ≤ k by omega)] at hbm
            refine aw_exit ?_
            refine thenA_x ?_
            refine thenA_x ?_
            refine blockA_hit ?_
            refine thenA_n ?_
            refine aw_region ?_
            refine al_opd rfl rfl rfl (ao_mv (v := .slice _ _ _) rfl) ?_
            refine al_opd rfl rfl rfl (ao_mv (v := .slice _ _ _) rfl) ?_
            refine al_opd rfl rfl rfl (ao_lit1 (v := .slice _ _ _) Tryd.underlying34 Tryd.sizeOf37 Tryd.zeroValue37 (by rfl) (by rfl) rfl rfl (by rfl) (by exact RFp)) ?_
            refine al_opd rfl rfl rfl (ao_appC Tryd.underlying34 ⟨_, Tryd.underlying34⟩ elem37 (by rfl) (by rfl) (by exact HLp) (by first | (rw [slC_len hPH.len, ← hno]; omega)) (by first | exact src_all (by exact HLp) (by rfl) (by rfl) | exact src_all (by exact HLp) (by rfl) (fl_len spot_len _)) (by first | rfl | exact spots_one _ | simp [isOne]) (by exact BDp) (by exact BDp)) ?_
            refine al_opd rfl rfl rfl (ao_as (v := .slice _ _ _) rfl) ?_
            refine al_nilB ?_
            refine thenA_n ?_
            refine aw_region ?_
            first | refine al_opd rfl rfl rfl ((ao_add rfl rfl).val (nw_i64 BDp BDp)) ?_ | refine al_opd rfl rfl rfl (ao_add rfl rfl) ?_
            refine al_opd rfl rfl rfl (ao_mv (v := .int _ _) rfl) ?_
            refine al_nilT ?_
            have hP1 := ((((hPH2.add hbp (by omega) hkp).push (.cells [slV pb (nearL r x 100)] 1)).kill (not_snoc hbo (Ne.symm hpo))).push (.cells (slC bs (partsI r i) ++ [slV pb (nearL r x 100)]) 1))
            refine ⟨_, ?_, _, rfl, i + 1, _, no + 1, _, bs ++ [pb], by omega, rfl, ?_, ?_, ?_, by rw [parts_no hx hnm, List.length_append, ← hno]; rfl, Nat.le_succ _, ?_, by exact SMp, by exact HLp, by rw [parts_flat hx hnm]; exact (by exact HLp), by exact HLp, ?_, ?_, by rw [parts_no hx hnm, slC_snoc hPH.len]; exact (by exact HLp), by rw [parts_no hx hnm]; exact hP1, rfl, rfl, rfl, rfl, rfl, by rfl⟩
            · omega
            · exact LNp
            · exact LNp
            · exact LNp
            · exact not_snoc (hPH2.nx (by exact LNp)) (by exact LNp)
            · exact LNp
            · exact LNp
    · try simp only [nrm] at h1_
      refine aw_exit ?_
      refine thenA_x ?_
      refine thenA_x ?_
      refine blockA_hit ?_
      refine thenA_n ?_
      refine aw_seq ?_
      refine aw_region ?_
      refine al_opd rfl rfl rfl (ao_mv (v := .slice _ _ _) rfl) ?_
      refine al_opd rfl rfl rfl (ao_as (v := .slice _ _ _) rfl) ?_
      refine al_nilT ?_
      refine aw_ret ?_
      refine ends1 rfl (rv_tmp (v := .slice _ _ _) rfl) ?_
      rw [parts_end (by omega)] at hko hno hPH
      exact ⟨hG, bs, hPH.weak (by omega), ob, co, by omega, hlo, hbo, by omega, by rw [hno], hko⟩

end Go.Proofs.YtmmmjdbknepjgaaDoor
