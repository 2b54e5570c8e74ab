/- Contracts of the program's functions over abstract heaps. -/
import Derived.Test.YtmmmjdbknepjgaaDoorGb
import Derived.Test.YtmmmjdbknepjgaaDoorVr
namespace Go.Proofs.YtmmmjdbknepjgaaDoor
open Go Go.AW Go.Proofs
set_option linter.unusedVariables false
set_option linter.unusedSimpArgs false
set_option maxRecDepth 100000
set_option maxHeartbeats 2000000

-- (impl.Room).grid
theorem grid_c {fnum : Nat} {fs cs : Array Value} {r : Room} {sg : Spot → Int} {H : AHeap} (hfn : ∀ (args : Array Value) (w : World), (callFunc fnum args).run Tryd.prog w = .ok (.enter fnum args) w) (hcall : ∀ (G : AHeap) (x y : Nat), Same H.next H G → (x : Int) < r.w → (y : Int) < r.h → ACd Tryd.prog fnum (fs.toList ++ [.agg #[.int .i8 (x : Int), .int .i8 (y : Int)]] ++ cs.toList) G (.int .u8 (sg ⟨(x : Int), (y : Int)⟩)) G) (h10 : 0 ≤ r.w ∧ r.w ≤ 10 ∧ 0 ≤ r.h ∧ r.h ≤ 10) : ACd Tryd.prog 39 [.agg (roomC r).toArray, .func (.func fnum) fs cs] H (.string (strOf (textTo sg r.w.toNat r.h.toNat 0))) (H) := by
  refine ac_gc0 (fun β => VR.plainT β (by first | rfl | simp [plainT, plainV, plain1])) (ac_body Tryd.func39 rfl Tryd.ntmps39 rfl ?_)
  refine aw_seq ?_
  refine aw_region ?_
  refine al_opd rfl rfl rfl (ao_boxa (by rfl)) ?_
  first | refine al_opd rfl rfl rfl (ao_as (v := .string _) rfl) ?_ | refine al_opd rfl rfl rfl (ao_as (v := .func (.func fnum) fs cs) rfl) ?_
  refine al_nilT ?_
  refine aw_seq ?_
  refine aw_region ?_
  refine al_opd rfl rfl rfl (ao_lit0 Tryd.underlying22 Tryd.sizeOf5 Tryd.zeroValue5 (by rfl) (by rfl) rfl) ?_
  first | refine al_opd rfl rfl rfl (ao_as (v := .slice _ _ _) rfl) ?_ | refine al_opd rfl rfl rfl (ao_as (v := .func (.func fnum) fs cs) rfl) ?_
  refine al_nilT ?_
  refine aw_seq ?_
  refine aw_seq ?_
  refine aw_region ?_
  refine al_opd rfl rfl rfl (ao_fieldAddr fo_28_1 rfl) ?_
  refine al_opd rfl rfl rfl (ao_load (v := .int _ _) Tryd.isAgg24 (by rfl) (by exact HLp) (by rfl) (by exact RFp)) ?_
  refine al_opd rfl rfl rfl (ao_mv (v := .int _ _) rfl) ?_
  refine al_nilT ?_
  refine aw_block ?_
  refine aw_loop (fun (gk : Nat) (fr : AFr) (G : AHeap) => ∃ get : Nat → Value, fr = ⟨34, get⟩ ∧ (∃ (y n pb c : Nat), (y : Int) ≤ r.h ∧ gk = r.h.toNat - y ∧ Same H.next H G ∧ G.blk H.next = some (.cells (roomC r) 1) ∧ H.next + 1 ≤ pb ∧ pb < G.next ∧ G.blk pb = some (.cells (fl u8 (textTo sg r.w.toNat y 0)) 1) ∧ n = (textTo sg r.w.toNat y 0).length ∧ n ≤ c ∧ get 5 = .slice (some ⟨pb, 0, none⟩) n c ∧ get 11 = .int .i8 y ∧ get 10 = .int .i8 r.h ∧ get 1 = .func (.func fnum) fs cs ∧ get 2 = .pointer (some ⟨H.next, 0, none⟩))) (r.h.toNat) ⟨_, rfl, ?_⟩ ?_
  · refine ⟨0, 0, _, _, by omega, rfl, by exact SMp, by exact HLp, ?_, ?_, by exact HLp, rfl, Nat.le_refl _, rfl, rfl, rfl, rfl, rfl⟩ <;> exact LNp
  · rintro gk fr G ⟨get, rfl, y, n, pb, c, hy, rfl, hG, hbx, hpb, hlt, hkb, hn, hc, gs, gy, gh, k0, k1⟩
    refine aw_slot (d := 5) (v := .slice (some ⟨pb, 0, none⟩) n c) (by first | assumption | rfl) ?_
    refine aw_slot (d := 11) (v := .int .i8 y) (by first | assumption | rfl) ?_
    refine aw_slot (d := 10) (v := .int .i8 r.h) (by first | assumption | rfl) ?_
    refine aw_slot (d := 1) (v := .func (.func fnum) fs cs) (by first | assumption | rfl) ?_
    refine aw_slot (d := 2) (v := .pointer (some ⟨H.next, 0, none⟩)) (by first | assumption | rfl) ?_
    refine aw_seq ?_
    refine aw_region ?_
    refine al_opd rfl rfl rfl (ao_lss rfl rfl) ?_
    refine al_nilT ?_
    refine aw_seq ?_
    refine aw_cond rfl (fun h1_ => ?_) (fun h1_ => ?_)
    · try simp only [nrm] at h1_
      refine aw_skipT ?_
      refine aw_seq ?_
      refine aw_block ?_
      refine aw_seq ?_
      refine aw_region ?_
      refine al_opd rfl rfl rfl (ao_mv (v := .int _ _) rfl) ?_
      refine al_opd rfl rfl rfl (ao_as (v := .int _ _) rfl) ?_
      refine al_nilT ?_
      refine aw_seq ?_
      refine aw_seq ?_
      refine aw_region ?_
      refine al_opd rfl rfl rfl (ao_fieldAddr fo_28_0 rfl) ?_
      refine al_opd rfl rfl rfl (ao_load (v := .int _ _) Tryd.isAgg24 (by rfl) (by exact HLp) (by rfl) (by exact RFp)) ?_
      refine al_opd rfl rfl rfl (ao_mv (v := .int _ _) rfl) ?_
      refine al_nilT ?_
      refine aw_block ?_
      refine aw_loop (fun (gk : Nat) (fr : AFr) (G : AHeap) => ∃ get : Nat → Value, fr = ⟨34, get⟩ ∧ (∃ (x n pb c : Nat), (x : Int) ≤ r.w ∧ gk = r.w.toNat - x ∧ Same H.next H G ∧ G.blk H.next = some (.cells (roomC r) 1) ∧ H.next + 1 ≤ pb ∧ pb < G.next ∧ G.blk pb = some (.cells (fl u8 (textTo sg r.w.toNat y x)) 1) ∧ n = (textTo sg r.w.toNat y x).length ∧ n ≤ c ∧ get 5 = .slice (some ⟨pb, 0, none⟩) n c ∧ get 11 = .int .i8 y ∧ get 10 = .int .i8 r.h ∧ get 1 = .func (.func fnum) fs cs ∧ get 2 = .pointer (some ⟨H.next, 0, none⟩) ∧ get 6 = .int .i8 y ∧ get 15 = .int .i8 r.w ∧ get 16 = .int .i8 x)) (r.w.toNat) ⟨_, rfl, ?_⟩ ?_
      · exact ⟨0, n, pb, c, by omega, rfl, hG, hbx, hpb, hlt, hkb, hn, hc, rfl, rfl, rfl, rfl, rfl, rfl, rfl, rfl⟩
      · rintro gk fr G ⟨get, rfl, x, n, pb, c, hx, rfl, hG, hbx, hpb, hlt, hkb, hn, hc, gs, gy, gh, k0, k1, k6, k15, k16⟩
        have hlen := textTo_bnd sg (w := r.w.toNat) (y := y) (x := x) (by omega) (by omega) (by omega)
        refine aw_slot (d := 5) (v := .slice (some ⟨pb, 0, none⟩) n c) (by first | assumption | rfl) ?_
        refine aw_slot (d := 11) (v := .int .i8 y) (by first | assumption | rfl) ?_
        refine aw_slot (d := 10) (v := .int .i8 r.h) (by first | assumption | rfl) ?_
        refine aw_slot (d := 1) (v := .func (.func fnum) fs cs) (by first | assumption | rfl) ?_
        refine aw_slot (d := 2) (v := .pointer (some ⟨H.next, 0, none⟩)) (by first | assumption | rfl) ?_
        refine aw_slot (d := 6) (v := .int .i8 y) (by first | assumption | rfl) ?_
        refine aw_slot (d := 15) (v := .int .i8 r.w) (by first | assumption | rfl) ?_
        refine aw_slot (d := 16) (v := .int .i8 x) (by first | assumption | rfl) ?_
        refine aw_seq ?_
        refine aw_region ?_
        refine al_opd rfl rfl rfl (ao_lss rfl rfl) ?_
        refine al_nilT ?_
        refine aw_seq ?_
        refine aw_cond rfl (fun h2_ => ?_) (fun h2_ => ?_)
        · try simp only [nrm] at h2_
          refine aw_skipT ?_
          refine aw_seq ?_
          refine aw_block ?_
          refine aw_seq ?_
          refine aw_region ?_
          refine al_opd rfl rfl rfl (ao_mv (v := .int _ _) rfl) ?_
          refine al_opd rfl rfl rfl (ao_as (v := .int _ _) rfl) ?_
          refine al_nilT ?_
          refine aw_region ?_
          first | refine al_opd rfl rfl rfl (ao_mv (v := .slice _ _ _) rfl) ?_ | refine al_opd rfl rfl rfl (ao_mv (v := .func (.func fnum) fs cs) rfl) ?_
          first | refine al_opd rfl rfl rfl (ao_mv (v := .func _ _ _) rfl) ?_ | refine al_opd rfl rfl rfl (ao_mv (v := .func (.func fnum) fs cs) rfl) ?_
          refine al_opd rfl rfl rfl (ao_mv (v := .int _ _) rfl) ?_
          refine al_opd rfl rfl rfl (ao_mv (v := .int _ _) rfl) ?_
          refine al_opd rfl rfl rfl (ao_build (A := #[.int .i8 (x : Int), .int .i8 (y : Int)]) Tryd.zeroValue48 (by rfl) (by first | rfl | kernel_rfl) (by rfl) (by first | rfl | kernel_rfl)) ?_
          refine al_opd rfl rfl rfl (ao_callv hfn (by rfl) (by rfl) (hcall _ x y (by exact SMp) (by omega) (by omega))) ?_
          refine al_opd rfl rfl rfl (ao_lit1 (v := .int _ _) Tryd.underlying22 Tryd.sizeOf5 Tryd.zeroValue5 (by rfl) (by rfl) rfl rfl (by rfl) (by exact RFp)) ?_
          refine al_opd rfl rfl rfl (ao_appC Tryd.underlying22 ⟨_, Tryd.underlying22⟩ elem5 (by rfl) (by rfl) (by exact HLp) (by (rw [fl_len u8_len, ← hn]; omega)) (by exact SCp) (by first | rfl | simp [isOne]) (by exact BDp) (by exact BDp)) ?_
          first | refine al_opd rfl rfl rfl (ao_as (v := .slice _ _ _) rfl) ?_ | refine al_opd rfl rfl rfl (ao_as (v := .func (.func fnum) fs cs) rfl) ?_
          refine al_nilB ?_
          refine thenA_n ?_
          refine aw_region ?_
          first | refine al_opd rfl rfl rfl ((ao_add rfl rfl).val (nw_i8 BDp BDp)) ?_ | refine al_opd rfl rfl rfl (ao_add rfl rfl) ?_
          refine al_opd rfl rfl rfl (ao_mv (v := .int _ _) rfl) ?_
          refine al_nilT ?_
          refine ⟨_, ?_, _, rfl, x + 1, n + 1, _, _, by omega, rfl, by exact SMp, by exact HLp, ?_, ?_, by rw [textTo_succ, fl_snoc]; exact (by exact HLp), by rw [textTo_succ, List.length_append, ← hn]; rfl, Nat.le_succ _, rfl, rfl, rfl, rfl, rfl, rfl, rfl, by rfl⟩
          · omega
          · exact LNp
          · exact LNp
        · try simp only [nrm] at h2_
          refine aw_exit ?_
          refine thenA_x ?_
          refine thenA_x ?_
          refine blockA_hit ?_
          refine thenA_n ?_
          refine aw_region ?_
          first | refine al_opd rfl rfl rfl (ao_mv (v := .slice _ _ _) rfl) ?_ | refine al_opd rfl rfl rfl (ao_mv (v := .func (.func fnum) fs cs) rfl) ?_
          refine al_opd rfl rfl rfl (ao_lit1 (v := .int _ _) Tryd.underlying22 Tryd.sizeOf5 Tryd.zeroValue5 (by rfl) (by rfl) rfl rfl (by rfl) (by exact RFp)) ?_
          refine al_opd rfl rfl rfl (ao_appC Tryd.underlying22 ⟨_, Tryd.underlying22⟩ elem5 (by rfl) (by rfl) (by exact HLp) (by (rw [fl_len u8_len, ← hn]; omega)) (by exact SCp) (by first | rfl | simp [isOne]) (by exact BDp) (by exact BDp)) ?_
          first | refine al_opd rfl rfl rfl (ao_as (v := .slice _ _ _) rfl) ?_ | refine al_opd rfl rfl rfl (ao_as (v := .func (.func fnum) fs cs) rfl) ?_
          refine al_nilB ?_
          refine thenA_n ?_
          refine aw_region ?_
          first | refine al_opd rfl rfl rfl ((ao_add rfl rfl).val (nw_i8 BDp BDp)) ?_ | refine al_opd rfl rfl rfl (ao_add rfl rfl) ?_
          refine al_opd rfl rfl rfl (ao_mv (v := .int _ _) rfl) ?_
          refine al_nilT ?_
          have hxw : x = r.w.toNat := by omega
          subst hxw
          refine ⟨_, ?_, _, rfl, y + 1, n + 1, _, _, by omega, rfl, by exact SMp, by exact HLp, ?_, ?_, by rw [textTo_row, fl_snoc]; exact (by exact HLp), by rw [textTo_row, List.length_append, ← hn]; rfl, Nat.le_succ _, rfl, by rfl, rfl, rfl, rfl⟩
          · omega
          · exact LNp
          · exact LNp
    · try simp only [nrm] at h1_
      refine aw_exit ?_
      refine thenA_x ?_
      refine thenA_x ?_
      refine blockA_hit ?_
      refine thenA_n ?_
      refine aw_seq ?_
      refine aw_region ?_
      first | refine al_opd rfl rfl rfl (ao_mv (v := .slice _ _ _) rfl) ?_ | refine al_opd rfl rfl rfl (ao_mv (v := .func (.func fnum) fs cs) rfl) ?_
      refine al_opd rfl rfl rfl (ao_b2s (by rfl) (by rfl) (by rfl) rfl (Sl.full u8_len hkb rfl rfl hn)) ?_
      first | refine al_opd rfl rfl rfl (ao_as (v := .string _) rfl) ?_ | refine al_opd rfl rfl rfl (ao_as (v := .func (.func fnum) fs cs) rfl) ?_
      refine al_nilT ?_
      refine aw_ret ?_
      refine ends1 rfl (rv_tmp (v := .string _) rfl) ?_
      have hyy : y = r.h.toNat := by omega
      subst hyy
      exact ⟨rfl, by exact SMp⟩

-- impl.RoomText$1
theorem text1_c {r : Room} {s : Spot} {qb : Nat} {H : AHeap} (hq : H.blk qb = some (.cells (roomC r) 1)) (hw : wfRoom r) (hs : wfSpot s) : ACd Tryd.prog 40 [.agg #[.int .i8 s.x, .int .i8 s.y], .pointer (some ⟨qb, 0, none⟩)] H (.int .u8 (signB r s)) (H) := by
  refine ac_gc0 (fun β => VR.plainT β (by first | rfl | simp [plainT, plainV, plain1])) (ac_body Tryd.func40 rfl Tryd.ntmps40 rfl ?_)
  refine aw_seq ?_
  refine aw_region ?_
  refine al_opd rfl rfl rfl (ao_boxa (by rfl)) ?_
  refine al_opd rfl rfl rfl (ao_as (v := .int _ _) rfl) ?_
  refine al_nilT ?_
  refine aw_seq ?_
  refine aw_seq ?_
  refine aw_region ?_
  refine al_opd rfl rfl rfl (ao_loada Tryd.isAgg28 Tryd.sizeOf28 rfl (by exact HLp) (by rfl) (by exact RFp)) ?_
  refine al_opd rfl rfl rfl (ao_loada Tryd.isAgg48 Tryd.sizeOf48 rfl (by exact HLp) (by rfl) (by exact RFp)) ?_
  refine al_opd rfl rfl rfl (ao_calld (isFree_c (r := r) (s := s) (b := freeB r s) hw hs (freeB_iff r s)) Tryd.call41 rfl rfl) ?_
  refine al_nilT ?_
  refine aw_cond rfl (fun h1_ => ?_) (fun h1_ => ?_)
  · try simp only [nrm] at h1_
    refine aw_seq ?_
    refine aw_region ?_
    refine al_opd rfl rfl rfl (ao_as (v := .int _ _) rfl) ?_
    refine al_nilT ?_
    refine aw_ret ?_
    refine thenA_r ?_
    refine ends1 rfl (rv_tmp (v := .int _ _) rfl) ?_
    exact ⟨by unfold signB; rw [if_pos h1_], by exact SMp⟩
  · try simp only [nrm] at h1_
    refine aw_skipT ?_
    refine aw_seq ?_
    refine aw_region ?_
    refine al_opd rfl rfl rfl (ao_as (v := .int _ _) rfl) ?_
    refine al_nilT ?_
    refine aw_ret ?_
    refine ends1 rfl (rv_tmp (v := .int _ _) rfl) ?_
    exact ⟨by unfold signB; rw [if_neg (by simpa using h1_)], by exact SMp⟩

-- impl.RoomText
theorem implText1_c {r : Room} {H : AHeap} (hw : wfRoom r) (hr : okRoom r) : ACd Tryd.prog 7 [.agg (roomC r).toArray] H (.string (textR r)) (H) := by
  have ⟨r1, r2, r3, r4, r5⟩ := hr
  refine ac_gc0 (fun β => VR.plainT β (by first | rfl | simp [plainT, plainV, plain1])) (ac_body Tryd.func7 rfl Tryd.ntmps7 rfl ?_)
  refine aw_seq ?_
  refine aw_region ?_
  refine al_opd rfl rfl rfl (ao_boxa (by rfl)) ?_
  refine al_opd rfl rfl rfl (ao_as (v := .string _) rfl) ?_
  refine al_nilT ?_
  refine aw_seq ?_
  refine aw_seq ?_
  refine aw_region ?_
  refine al_opd rfl rfl rfl (ao_loada Tryd.isAgg28 Tryd.sizeOf28 rfl (by exact HLp) (by rfl) (by exact RFp)) ?_
  refine al_opd rfl rfl rfl (ao_calld (implValid_c (r := r) (b := true) hw (yes hr)) Tryd.call17 rfl rfl) ?_
  refine al_opd rfl rfl rfl (ao_not rfl) ?_
  refine al_nilT ?_
  refine aw_cond rfl (fun h1_ => ?_) (fun h1_ => ?_)
  · try simp only [nrm] at h1_
    first | done | omega | (exfalso; revert h1_; simp; (first | done | omega))
  try simp only [nrm] at h1_
  refine aw_skipT ?_
  refine aw_seq ?_
  refine aw_region ?_
  refine al_opd rfl rfl rfl (ao_loada Tryd.isAgg28 Tryd.sizeOf28 rfl (by exact HLp) (by rfl) (by exact RFp)) ?_
  refine al_opd rfl rfl rfl (ao_makeFunc rfl rfl) ?_
  refine al_opd rfl rfl rfl (ao_calld (grid_c (fnum := 40) (fs := #[]) (cs := #[.pointer (some ⟨H.next, 0, none⟩)]) (r := r) (sg := signB r) Tryd.call40 (fun G x y hs hx hy => text1_c (r := r) (s := ⟨(x : Int), (y : Int)⟩) ((hs _ (by exact LEp)).trans (by exact HLp)) hw ⟨⟨by show (-128 : Int) ≤ (x : Int); omega, by show (x : Int) ≤ 127; omega⟩, ⟨by show (-128 : Int) ≤ (y : Int); omega, by show (y : Int) ≤ 127; omega⟩⟩) (by omega)) Tryd.call39 rfl rfl) ?_
  refine al_opd rfl rfl rfl (ao_as (v := .string _) rfl) ?_
  refine al_nilT ?_
  refine aw_ret ?_
  refine ends1 rfl (rv_tmp (v := .string _) rfl) ?_
  exact ⟨by first | rfl | (simp [*]; (first | done | fail)), by exact SMp⟩

end Go.Proofs.YtmmmjdbknepjgaaDoor
