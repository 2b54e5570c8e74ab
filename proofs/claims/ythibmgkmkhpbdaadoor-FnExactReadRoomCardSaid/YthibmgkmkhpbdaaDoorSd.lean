/- Contracts of the program's functions over abstract heaps. -/
import Derived.Test.YthibmgkmkhpbdaaDoorReadR
import Derived.Test.YthibmgkmkhpbdaaDoorRm
import Derived.Test.YthibmgkmkhpbdaaDoorFr
import Derived.Test.YthibmgkmkhpbdaaDoorSp
namespace Go.Proofs.YthibmgkmkhpbdaaDoor
open Go Go.AW Go.Proofs
set_option linter.unusedVariables false
set_option linter.unusedSimpArgs false
set_option maxRecDepth 100000
set_option maxHeartbeats 2000000

-- spec.ReadRoom
theorem specRead1_c {t : ByteArray} {r : Room} {H : AHeap} (hsz : t.size ≤ 1048576) (hw : wfRoom r) (hr : okRoom r) (hq : textR r = t) : ACd Tryd.prog 4 [.string t] H (.tuple #[.agg (roomC r).toArray, .int .i64 0]) (H) := by
  have ⟨r1, r2, r3, r4, r5⟩ := hr
  have hP : (pcs 10 t) = linesR r := by rw [← hq]; exact pcs_text r
  have hpl := pcs_len 10 t
  obtain ⟨h, hh⟩ : ∃ h, (pcs 10 t).length = h + 1 := ⟨(pcs 10 t).length - 1, by have := pcs_pos 10 t; omega⟩
  obtain ⟨p0, hp0⟩ := get_lt (show 0 < (pcs 10 t).length by omega)
  obtain ⟨pl, hpe⟩ := get_lt (show h < (pcs 10 t).length by omega)
  have hs0 := pcs_size 10 t hp0
  have e1 : h = r.h.toNat := by have := lines_len r; rw [← hP] at this; omega
  have e2 : p0.size = r.w.toNat := by (have h9 := hp0; rw [hP, lines_at r (by omega)] at h9; cases h9; rw [ofL_size, line_len])
  have e3 : pl = ⟨#[]⟩ := by (have h9 := hpe; rw [hP, e1, lines_last] at h9; cases h9; rfl)
  refine ac_gc0 (fun β => VR.plainT β (by first | rfl | simp [plainT, plainV, plain1])) (ac_body Tryd.func4 rfl Tryd.ntmps4 rfl ?_)
  refine aw_seq ?_
  refine aw_region ?_
  refine al_opd rfl rfl rfl (ao_alloca (zv26) (by rfl)) ?_
  refine al_opd rfl rfl rfl (ao_as (v := .int _ _) rfl) ?_
  refine al_nilT ?_
  refine aw_seq ?_
  refine aw_region ?_
  refine al_opd rfl rfl rfl (ao_mv (v := .string _) rfl) ?_
  refine al_opd rfl rfl rfl (ao_calld (l01Split_c (t := t) (c := 10) (by omega)) Tryd.call7 rfl rfl) ?_
  have hsl0 : Sl ((H.push (.cells [.int .i8 0, .int .i8 0, .int .u16 0, .int .u16 0, .int .u16 0, .int .u16 0, .int .u16 0, .int .u16 0, .int .u16 0, .int .u16 0, .int .u16 0, .int .u16 0] 1)).push (.cells (fl str1 (pcs 10 t)) 1)) str1 1 (.slice (some ⟨H.next + 1, 0, none⟩) (pcs 10 t).length ((pcs 10 t).length + 1)) (pcs 10 t) := Sl.full str1_len (by exact HLp) rfl rfl rfl
  refine al_opd rfl rfl rfl (ao_as (v := .slice _ _ _) rfl) ?_
  refine al_nilT ?_
  refine aw_seq ?_
  refine aw_region ?_
  refine al_opd rfl rfl rfl (ao_mv (v := .slice _ _ _) rfl) ?_
  first | refine al_opd rfl rfl rfl (ao_lenS Tryd.underlying31 (by rfl)) ?_ | refine al_opd rfl rfl rfl (ao_lenN Tryd.underlying31 (by rfl)) ?_ | refine al_opd rfl rfl rfl (ao_lenV Tryd.underlying31 rfl hsl0) ?_ | refine al_opd rfl rfl rfl (ao_lenV Tryd.underlying31 rfl hsl) ?_
  refine al_opd rfl rfl rfl ((ao_sub rfl rfl).val (subN (n := (pcs 10 t).length) (h := h) hh (by omega))) ?_
  refine al_opd rfl rfl rfl (ao_as (v := .int _ _) rfl) ?_
  refine al_nilT ?_
  refine aw_seq ?_
  refine aw_region ?_
  refine al_opd rfl rfl rfl (ao_mv (v := .slice _ _ _) rfl) ?_
  first | refine al_opd rfl rfl rfl (ao_indexAddrS Tryd.underlying31 Tryd.sizeOf9 rfl rfl (by exact IXp) (by exact IXp)) ?_ | refine al_opd rfl rfl rfl (ao_indexV Tryd.underlying31 Tryd.sizeOf9 rfl rfl hsl0 (by exact IXp) (by exact IXp)) ?_ | refine al_opd rfl rfl rfl (ao_indexV Tryd.underlying31 Tryd.sizeOf9 rfl rfl hsl (by exact IXp) (by exact IXp)) ?_
  first | refine al_opd rfl rfl rfl (ao_load (v := .string _) Tryd.isAgg9 (by rfl) (by exact HLp) (by rfl) (by exact RFp)) ?_ | refine al_opd rfl rfl rfl (ao_loadV (j := 0) (u := .string _) Tryd.isAgg9 hsl0 rfl rfl hp0 rfl) ?_ | refine al_opd rfl rfl rfl (ao_loadV (j := 1) (u := .string _) Tryd.isAgg9 hsl0 rfl rfl hp0 rfl) ?_ | refine al_opd rfl rfl rfl (ao_loadV (j := 0) (u := .string _) Tryd.isAgg9 hsl0 rfl rfl hpe rfl) ?_ | refine al_opd rfl rfl rfl (ao_loadV (j := 1) (u := .string _) Tryd.isAgg9 hsl0 rfl rfl hpe rfl) ?_ | refine al_opd rfl rfl rfl (ao_loadV (j := 0) (u := .string _) Tryd.isAgg9 hsl0 rfl rfl hp rfl) ?_ | refine al_opd rfl rfl rfl (ao_loadV (j := 1) (u := .string _) Tryd.isAgg9 hsl0 rfl rfl hp rfl) ?_ | refine al_opd rfl rfl rfl (ao_loadV (j := 0) (u := .string _) Tryd.isAgg9 hsl rfl rfl hp0 rfl) ?_ | refine al_opd rfl rfl rfl (ao_loadV (j := 1) (u := .string _) Tryd.isAgg9 hsl rfl rfl hp0 rfl) ?_ | refine al_opd rfl rfl rfl (ao_loadV (j := 0) (u := .string _) Tryd.isAgg9 hsl rfl rfl hpe rfl) ?_ | refine al_opd rfl rfl rfl (ao_loadV (j := 1) (u := .string _) Tryd.isAgg9 hsl rfl rfl hpe rfl) ?_ | refine al_opd rfl rfl rfl (ao_loadV (j := 0) (u := .string _) Tryd.isAgg9 hsl rfl rfl hp rfl) ?_ | refine al_opd rfl rfl rfl (ao_loadV (j := 1) (u := .string _) Tryd.isAgg9 hsl rfl rfl hp rfl) ?_
  refine al_opd rfl rfl rfl (ao_lenStr Tryd.underlying9 (by rfl)) ?_
  refine al_opd rfl rfl rfl (ao_as (v := .int _ _) rfl) ?_
  refine al_nilT ?_
  refine aw_seq ?_
  refine aw_seq ?_
  refine aw_region ?_
  refine al_opd rfl rfl rfl (ao_mv (v := .slice _ _ _) rfl) ?_
  refine al_opd rfl rfl rfl (ao_mv (v := .int _ _) rfl) ?_
  first | refine al_opd rfl rfl rfl (ao_indexAddrS Tryd.underlying31 Tryd.sizeOf9 rfl rfl (by exact IXp) (by exact IXp)) ?_ | refine al_opd rfl rfl rfl (ao_indexV Tryd.underlying31 Tryd.sizeOf9 rfl rfl hsl0 (by exact IXp) (by exact IXp)) ?_ | refine al_opd rfl rfl rfl (ao_indexV Tryd.underlying31 Tryd.sizeOf9 rfl rfl hsl (by exact IXp) (by exact IXp)) ?_
  first | refine al_opd rfl rfl rfl (ao_load (v := .string _) Tryd.isAgg9 (by rfl) (by exact HLp) (by rfl) (by exact RFp)) ?_ | refine al_opd rfl rfl rfl (ao_loadV (j := 0) (u := .string _) Tryd.isAgg9 hsl0 rfl rfl hp0 rfl) ?_ | refine al_opd rfl rfl rfl (ao_loadV (j := 1) (u := .string _) Tryd.isAgg9 hsl0 rfl rfl hp0 rfl) ?_ | refine al_opd rfl rfl rfl (ao_loadV (j := 0) (u := .string _) Tryd.isAgg9 hsl0 rfl rfl hpe rfl) ?_ | refine al_opd rfl rfl rfl (ao_loadV (j := 1) (u := .string _) Tryd.isAgg9 hsl0 rfl rfl hpe rfl) ?_ | refine al_opd rfl rfl rfl (ao_loadV (j := 0) (u := .string _) Tryd.isAgg9 hsl0 rfl rfl hp rfl) ?_ | refine al_opd rfl rfl rfl (ao_loadV (j := 1) (u := .string _) Tryd.isAgg9 hsl0 rfl rfl hp rfl) ?_ | refine al_opd rfl rfl rfl (ao_loadV (j := 0) (u := .string _) Tryd.isAgg9 hsl rfl rfl hp0 rfl) ?_ | refine al_opd rfl rfl rfl (ao_loadV (j := 1) (u := .string _) Tryd.isAgg9 hsl rfl rfl hp0 rfl) ?_ | refine al_opd rfl rfl rfl (ao_loadV (j := 0) (u := .string _) Tryd.isAgg9 hsl rfl rfl hpe rfl) ?_ | refine al_opd rfl rfl rfl (ao_loadV (j := 1) (u := .string _) Tryd.isAgg9 hsl rfl rfl hpe rfl) ?_ | refine al_opd rfl rfl rfl (ao_loadV (j := 0) (u := .string _) Tryd.isAgg9 hsl rfl rfl hp rfl) ?_ | refine al_opd rfl rfl rfl (ao_loadV (j := 1) (u := .string _) Tryd.isAgg9 hsl rfl rfl hp rfl) ?_
  refine al_opd rfl rfl rfl (ao_sneq rfl rfl) ?_
  refine al_opd rfl rfl rfl (ao_mv (v := .bool _) rfl) ?_
  refine al_cases (d := 24) rfl (fun h1_ => ?_) (fun h1_ => ?_)
  · try simp only [nrm] at h1_
    exact absurd (congrArg ByteArray.toList e3) h1_
  try simp only [nrm] at h1_
  refine al_gyes rfl rfl rfl rfl rfl (ao_mv (v := .int _ _) rfl) ?_
  refine al_gyes rfl rfl rfl rfl rfl (ao_calld (l00In_c) Tryd.call8 rfl rfl) ?_
  refine al_gyes rfl rfl rfl rfl rfl (ao_not rfl) ?_
  refine al_opd rfl rfl rfl (ao_pickF rfl (v := .bool _) rfl) ?_
  refine al_opd rfl rfl rfl (ao_mv (v := .bool _) rfl) ?_
  refine al_cases (d := 29) rfl (fun h2_ => ?_) (fun h2_ => ?_)
  · try simp only [nrm] at h2_
    first | done | omega | (exfalso; revert h2_; simp; (first | done | omega))
  try simp only [nrm] at h2_
  refine al_gyes rfl rfl rfl rfl rfl (ao_mv (v := .int _ _) rfl) ?_
  refine al_gyes rfl rfl rfl rfl rfl (ao_calld (l00In_c) Tryd.call8 rfl rfl) ?_
  refine al_gyes rfl rfl rfl rfl rfl (ao_not rfl) ?_
  refine al_opd rfl rfl rfl (ao_pickF rfl (v := .bool _) rfl) ?_
  refine al_nilT ?_
  refine aw_cond rfl (fun h3_ => ?_) (fun h3_ => ?_)
  · try simp only [nrm] at h3_
    first | done | omega | (exfalso; revert h3_; simp; (first | done | omega))
  try simp only [nrm] at h3_
  refine aw_skipT ?_
  refine aw_seq ?_
  refine aw_region ?_
  refine al_opd rfl rfl rfl (ao_mv (v := .int _ _) rfl) ?_
  first | refine al_opd rfl rfl rfl ((ao_conv ⟨_, Tryd.underlying3⟩ Tryd.underlying22 rfl).val (nw_i8 BDp BDp)) ?_ | refine al_opd rfl rfl rfl (ao_conv ⟨_, Tryd.underlying3⟩ Tryd.underlying22 rfl) ?_
  refine al_opd rfl rfl rfl (ao_mv (v := .int _ _) rfl) ?_
  first | refine al_opd rfl rfl rfl ((ao_conv ⟨_, Tryd.underlying3⟩ Tryd.underlying22 rfl).val (nw_i8 BDp BDp)) ?_ | refine al_opd rfl rfl rfl (ao_conv ⟨_, Tryd.underlying3⟩ Tryd.underlying22 rfl) ?_
  refine al_opd rfl rfl rfl (ao_build (A := (roomC ⟨(p0.size : Int), (h : Int), fun _ => 0⟩).toArray) Tryd.zeroValue26 (by rfl) (by first | rfl | kernel_rfl) (by rfl) (by first | rfl | kernel_rfl)) ?_
  refine al_opd rfl rfl rfl (ao_alloca (zv26) (by rfl)) ?_
  first | refine al_opd rfl rfl rfl ((ao_storeL Tryd.sizeOf26 (by rfl) (by rfl) (by exact HLp) (by exact RFp) (by exact RFp) (by exact RFp)).to (SetR.eq (by exact SRp))) ?_ | refine al_opd rfl rfl rfl ((ao_storeP (ds := [.int _ _, .int _ _, .int _ _, .int _ _, .int _ _, .int _ _, .int _ _, .int _ _, .int _ _, .int _ _, .int _ _, .int _ _]) Tryd.sizeOf26 (by rfl) (by rfl) (by exact HLp) (by exact RFp) (by exact RFp) (by exact LTp)).to (SetR.eq (by exact SRp))) ?_
  refine al_nilT ?_
  refine aw_seq ?_
  refine aw_seq ?_
  refine aw_region ?_
  refine al_opd rfl rfl rfl (ao_as (v := .int _ _) rfl) ?_
  refine al_nilT ?_
  refine aw_block ?_
  refine aw_loop (fun (gk : Nat) (fr : AFr) (G : AHeap) => ∃ get : Nat → Value, fr = ⟨76, get⟩ ∧ (∃ (y : Nat) (R : Room), y ≤ h ∧ gk = h - y ∧ Same H.next H G ∧ H.next + 3 ≤ G.next ∧ G.blk H.next = some (.cells [.int .i8 0, .int .i8 0, .int .u16 0, .int .u16 0, .int .u16 0, .int .u16 0, .int .u16 0, .int .u16 0, .int .u16 0, .int .u16 0, .int .u16 0, .int .u16 0] 1) ∧ G.blk (H.next + 1) = some (.cells (fl str1 (pcs 10 t)) 1) ∧ G.blk (H.next + 2) = some (.cells (roomC R) 1) ∧ R.w = (p0.size : Int) ∧ R.h = (h : Int) ∧ bitsTo (pcs 10 t) p0.size y 0 R ∧ fineTo (pcs 10 t) p0.size y 0 ∧ get 2 = .pointer (some ⟨H.next, 0, none⟩) ∧ get 4 = .slice (some ⟨H.next + 1, 0, none⟩) (pcs 10 t).length ((pcs 10 t).length + 1) ∧ get 5 = .int .i64 (h : Nat) ∧ get 6 = .int .i64 (p0.size : Nat) ∧ get 7 = .pointer (some ⟨H.next + 2, 0, none⟩) ∧ get 8 = .int .i64 (y : Nat))) (h) ⟨_, rfl, ?_⟩ ?_
  · exact ⟨0, ⟨(p0.size : Int), (h : Int), fun _ => 0⟩, Nat.zero_le _, rfl, by exact SMp, by exact LEp, by exact HLp, by exact HLp, by exact HLp, rfl, rfl, bitsTo_init _ _ _ _, fineTo_init _ _, rfl, rfl, rfl, rfl, rfl, rfl⟩
  · rintro gk fr G ⟨get, rfl, y, R, hy, rfl, hG, hnx, hb0, hb1, hb2, ew, eh, hbt, hft, g2, g4, g5, g6, g7, g8⟩
    have hsl : Sl G str1 1 (.slice (some ⟨H.next + 1, 0, none⟩) (pcs 10 t).length ((pcs 10 t).length + 1)) (pcs 10 t) := Sl.full str1_len hb1 rfl rfl rfl
    refine aw_slot (d := 2) (v := .pointer (some ⟨H.next, 0, none⟩)) (by first | assumption | rfl) ?_
    refine aw_slot (d := 4) (v := .slice (some ⟨H.next + 1, 0, none⟩) (pcs 10 t).length ((pcs 10 t).length + 1)) (by first | assumption | rfl) ?_
    refine aw_slot (d := 5) (v := .int .i64 (h : Nat)) (by first | assumption | rfl) ?_
    refine aw_slot (d := 6) (v := .int .i64 (p0.size : Nat)) (by first | assumption | rfl) ?_
    refine aw_slot (d := 7) (v := .pointer (some ⟨H.next + 2, 0, none⟩)) (by first | assumption | rfl) ?_
    refine aw_slot (d := 8) (v := .int .i64 (y : Nat)) (by first | assumption | rfl) ?_
    refine aw_seq ?_
    refine aw_seq ?_
    refine aw_region ?_
    refine al_opd rfl rfl rfl (ao_mv (v := .int _ _) rfl) ?_
    refine al_opd rfl rfl rfl (ao_mv (v := .int _ _) rfl) ?_
    refine al_opd rfl rfl rfl (ao_lss rfl rfl) ?_
    refine al_nilT ?_
    refine aw_cond rfl (fun h4_ => ?_) (fun h4_ => ?_)
    · try simp only [nrm] at h4_
      obtain ⟨p, hp⟩ := get_lt (show y < (pcs 10 t).length by omega)
      have hps := pcs_size 10 t hp
      refine aw_skipT ?_
      refine aw_seq ?_
      refine aw_block ?_
      refine aw_seq ?_
      refine aw_seq ?_
      refine aw_region ?_
      refine al_opd rfl rfl rfl (ao_mv (v := .slice _ _ _) rfl) ?_
      refine al_opd rfl rfl rfl (ao_mv (v := .int _ _) rfl) ?_
      first | refine al_opd rfl rfl rfl (ao_indexAddrS Tryd.underlying31 Tryd.sizeOf9 rfl rfl (by exact IXp) (by exact IXp)) ?_ | refine al_opd rfl rfl rfl (ao_indexV Tryd.underlying31 Tryd.sizeOf9 rfl rfl hsl0 (by exact IXp) (by exact IXp)) ?_ | refine al_opd rfl rfl rfl (ao_indexV Tryd.underlying31 Tryd.sizeOf9 rfl rfl hsl (by exact IXp) (by exact IXp)) ?_
      first | refine al_opd rfl rfl rfl (ao_load (v := .string _) Tryd.isAgg9 (by rfl) (by exact HLp) (by rfl) (by exact RFp)) ?_ | refine al_opd rfl rfl rfl (ao_loadV (j := 0) (u := .string _) Tryd.isAgg9 hsl0 rfl rfl hp0 rfl) ?_ | refine al_opd rfl rfl rfl (ao_loadV (j := 1) (u := .string _) Tryd.isAgg9 hsl0 rfl rfl hp0 rfl) ?_ | refine al_opd rfl rfl rfl (ao_loadV (j := 0) (u := .string _) Tryd.isAgg9 hsl0 rfl rfl hpe rfl) ?_ | refine al_opd rfl rfl rfl (ao_loadV (j := 1) (u := .string _) Tryd.isAgg9 hsl0 rfl rfl hpe rfl) ?_ | refine al_opd rfl rfl rfl (ao_loadV (j := 0) (u := .string _) Tryd.isAgg9 hsl0 rfl rfl hp rfl) ?_ | refine al_opd rfl rfl rfl (ao_loadV (j := 1) (u := .string _) Tryd.isAgg9 hsl0 rfl rfl hp rfl) ?_ | refine al_opd rfl rfl rfl (ao_loadV (j := 0) (u := .string _) Tryd.isAgg9 hsl rfl rfl hp0 rfl) ?_ | refine al_opd rfl rfl rfl (ao_loadV (j := 1) (u := .string _) Tryd.isAgg9 hsl rfl rfl hp0 rfl) ?_ | refine al_opd rfl rfl rfl (ao_loadV (j := 0) (u := .string _) Tryd.isAgg9 hsl rfl rfl hpe rfl) ?_ | refine al_opd rfl rfl rfl (ao_loadV (j := 1) (u := .string _) Tryd.isAgg9 hsl rfl rfl hpe rfl) ?_ | refine al_opd rfl rfl rfl (ao_loadV (j := 0) (u := .string _) Tryd.isAgg9 hsl rfl rfl hp rfl) ?_ | refine al_opd rfl rfl rfl (ao_loadV (j := 1) (u := .string _) Tryd.isAgg9 hsl rfl rfl hp rfl) ?_
      refine al_opd rfl rfl rfl (ao_lenStr Tryd.underlying9 (by rfl)) ?_
      refine al_opd rfl rfl rfl (ao_mv (v := .int _ _) rfl) ?_
      refine al_opd rfl rfl rfl (ao_neq rfl rfl) ?_
      refine al_nilT ?_
      refine aw_cond rfl (fun h5_ => ?_) (fun h5_ => ?_)
      · try simp only [nrm] at h5_
        (rw [hP, lines_at r (by omega)] at hp; cases hp; rw [ofL_size, line_len] at h5_; omega)
      try simp only [nrm] at h5_
      refine aw_skipT ?_
      refine aw_seq ?_
      refine aw_region ?_
      refine al_opd rfl rfl rfl (ao_as (v := .int _ _) rfl) ?_
      refine al_nilT ?_
      refine aw_block ?_
      refine aw_loop (fun (gk : Nat) (fr : AFr) (G : AHeap) => ∃ get : Nat → Value, fr = ⟨76, get⟩ ∧ (∃ (x : Nat) (R : Room), x ≤ p0.size ∧ gk = p0.size - x ∧ Same H.next H G ∧ H.next + 3 ≤ G.next ∧ G.blk H.next = some (.cells [.int .i8 0, .int .i8 0, .int .u16 0, .int .u16 0, .int .u16 0, .int .u16 0, .int .u16 0, .int .u16 0, .int .u16 0, .int .u16 0, .int .u16 0, .int .u16 0] 1) ∧ G.blk (H.next + 1) = some (.cells (fl str1 (pcs 10 t)) 1) ∧ G.blk (H.next + 2) = some (.cells (roomC R) 1) ∧ R.w = (p0.size : Int) ∧ R.h = (h : Int) ∧ bitsTo (pcs 10 t) p0.size y x R ∧ fineTo (pcs 10 t) p0.size y x ∧ get 2 = .pointer (some ⟨H.next, 0, none⟩) ∧ get 4 = .slice (some ⟨H.next + 1, 0, none⟩) (pcs 10 t).length ((pcs 10 t).length + 1) ∧ get 5 = .int .i64 (h : Nat) ∧ get 6 = .int .i64 (p0.size : Nat) ∧ get 7 = .pointer (some ⟨H.next + 2, 0, none⟩) ∧ get 8 = .int .i64 (y : Nat) ∧ get 9 = .int .i64 (x : Nat))) (p0.size) ⟨_, rfl, ?_⟩ ?_
      · exact ⟨0, R, Nat.zero_le _, rfl, hG, hnx, hb0, hb1, hb2, ew, eh, hbt, hft, rfl, rfl, rfl, rfl, rfl, rfl, rfl⟩
      · rintro gk fr G ⟨get, rfl, x, R, hx, rfl, hG, hnx, hb0, hb1, hb2, ew, eh, hbt, hft, g2, g4, g5, g6, g7, g8, g9⟩
        have hsl : Sl G str1 1 (.slice (some ⟨H.next + 1, 0, none⟩) (pcs 10 t).length ((pcs 10 t).length + 1)) (pcs 10 t) := Sl.full str1_len hb1 rfl rfl rfl
        refine aw_slot (d := 2) (v := .pointer (some ⟨H.next, 0, none⟩)) (by first | assumption | rfl) ?_
        refine aw_slot (d := 4) (v := .slice (some ⟨H.next + 1, 0, none⟩) (pcs 10 t).length ((pcs 10 t).length + 1)) (by first | assumption | rfl) ?_
        refine aw_slot (d := 5) (v := .int .i64 (h : Nat)) (by first | assumption | rfl) ?_
        refine aw_slot (d := 6) (v := .int .i64 (p0.size : Nat)) (by first | assumption | rfl) ?_
        refine aw_slot (d := 7) (v := .pointer (some ⟨H.next + 2, 0, none⟩)) (by first | assumption | rfl) ?_
        refine aw_slot (d := 8) (v := .int .i64 (y : Nat)) (by first | assumption | rfl) ?_
        refine aw_slot (d := 9) (v := .int .i64 (x : Nat)) (by first | assumption | rfl) ?_
        refine aw_seq ?_
        refine aw_seq ?_
        refine aw_region ?_
        refine al_opd rfl rfl rfl (ao_mv (v := .int _ _) rfl) ?_
        refine al_opd rfl rfl rfl (ao_mv (v := .int _ _) rfl) ?_
        refine al_opd rfl rfl rfl (ao_lss rfl rfl) ?_
        refine al_nilT ?_
        refine aw_cond rfl (fun h6_ => ?_) (fun h6_ => ?_)
        · try simp only [nrm] at h6_
          obtain ⟨b, hb⟩ := strAt (show x < p.size by omega)
          have hbp : byteP (pcs 10 t) x y = some b := (byteP_of hp).trans hb
          refine aw_skipT ?_
          refine aw_seq ?_
          refine aw_block ?_
          refine aw_seq ?_
          refine aw_region ?_
          refine al_opd rfl rfl rfl (ao_mv (v := .slice _ _ _) rfl) ?_
          refine al_opd rfl rfl rfl (ao_mv (v := .int _ _) rfl) ?_
          first | refine al_opd rfl rfl rfl (ao_indexAddrS Tryd.underlying31 Tryd.sizeOf9 rfl rfl (by exact IXp) (by exact IXp)) ?_ | refine al_opd rfl rfl rfl (ao_indexV Tryd.underlying31 Tryd.sizeOf9 rfl rfl hsl0 (by exact IXp) (by exact IXp)) ?_ | refine al_opd rfl rfl rfl (ao_indexV Tryd.underlying31 Tryd.sizeOf9 rfl rfl hsl (by exact IXp) (by exact IXp)) ?_
          first | refine al_opd rfl rfl rfl (ao_load (v := .string _) Tryd.isAgg9 (by rfl) (by exact HLp) (by rfl) (by exact RFp)) ?_ | refine al_opd rfl rfl rfl (ao_loadV (j := 0) (u := .string _) Tryd.isAgg9 hsl0 rfl rfl hp0 rfl) ?_ | refine al_opd rfl rfl rfl (ao_loadV (j := 1) (u := .string _) Tryd.isAgg9 hsl0 rfl rfl hp0 rfl) ?_ | refine al_opd rfl rfl rfl (ao_loadV (j := 0) (u := .string _) Tryd.isAgg9 hsl0 rfl rfl hpe rfl) ?_ | refine al_opd rfl rfl rfl (ao_loadV (j := 1) (u := .string _) Tryd.isAgg9 hsl0 rfl rfl hpe rfl) ?_ | refine al_opd rfl rfl rfl (ao_loadV (j := 0) (u := .string _) Tryd.isAgg9 hsl0 rfl rfl hp rfl) ?_ | refine al_opd rfl rfl rfl (ao_loadV (j := 1) (u := .string _) Tryd.isAgg9 hsl0 rfl rfl hp rfl) ?_ | refine al_opd rfl rfl rfl (ao_loadV (j := 0) (u := .string _) Tryd.isAgg9 hsl rfl rfl hp0 rfl) ?_ | refine al_opd rfl rfl rfl (ao_loadV (j := 1) (u := .string _) Tryd.isAgg9 hsl rfl rfl hp0 rfl) ?_ | refine al_opd rfl rfl rfl (ao_loadV (j := 0) (u := .string _) Tryd.isAgg9 hsl rfl rfl hpe rfl) ?_ | refine al_opd rfl rfl rfl (ao_loadV (j := 1) (u := .string _) Tryd.isAgg9 hsl rfl rfl hpe rfl) ?_ | refine al_opd rfl rfl rfl (ao_loadV (j := 0) (u := .string _) Tryd.isAgg9 hsl rfl rfl hp rfl) ?_ | refine al_opd rfl rfl rfl (ao_loadV (j := 1) (u := .string _) Tryd.isAgg9 hsl rfl rfl hp rfl) ?_
          refine al_opd rfl rfl rfl (ao_mv (v := .int _ _) rfl) ?_
          refine al_opd rfl rfl rfl (ao_indexStr Tryd.underlying9 (by rfl) (by rfl) (by first | rfl | omega) (by assumption)) ?_
          refine al_nilT ?_
          refine aw_block ?_
          refine aw_seq ?_
          refine aw_region ?_
          refine al_opd rfl rfl rfl (ao_eql rfl rfl) ?_
          refine al_opd rfl rfl rfl (ao_as (v := .bool _) rfl) ?_
          refine al_nilT ?_
          refine aw_cond rfl (fun h7_ => ?_) (fun h7_ => ?_)
          · try simp only [nrm] at h7_
            refine aw_skipB ?_
            refine blockA_n ?_
            refine thenA_n ?_
            refine aw_region ?_
            refine al_opd rfl rfl rfl (ao_mv (v := .int _ _) rfl) ?_
            first | refine al_opd rfl rfl rfl ((ao_add rfl rfl).val (nw_i64 BDp BDp)) ?_ | refine al_opd rfl rfl rfl (ao_add rfl rfl) ?_
            refine al_opd rfl rfl rfl (ao_as (v := .int _ _) rfl) ?_
            refine al_nilT ?_
            obtain rfl : b = 46 := u8_is (k := 46) h7_ rfl
            exact ⟨_, by omega, _, rfl, x + 1, R, by omega, rfl, by exact SMp, by exact LEp, by exact HLp, by exact HLp, by exact HLp, ew, eh, bitsTo_no hbt (by rw [hbp]; decide), fineTo_step hft (.inl hbp), rfl, rfl, rfl, rfl, rfl, rfl, by rfl⟩
          · try simp only [nrm] at h7_
            refine aw_seq ?_
            refine aw_region ?_
            refine al_opd rfl rfl rfl (ao_eql rfl rfl) ?_
            refine al_opd rfl rfl rfl (ao_as (v := .bool _) rfl) ?_
            refine al_nilT ?_
            refine aw_cond rfl (fun h8_ => ?_) (fun h8_ => ?_)
            rotate_left
            · try simp only [nrm] at h8_
              (rw [hP, byteP_lines r (by omega) (by omega)] at hbp; cases hbp; rcases sign_cases r ⟨(x : Int), (y : Int)⟩ with ⟨_, q⟩ | ⟨_, q⟩ <;> rw [q] at h7_ h8_ <;> first | exact absurd rfl h7_ | exact absurd rfl h8_)
            try simp only [nrm] at h8_
            refine aw_region ?_
            refine al_opd rfl rfl rfl (ao_mv (v := .int _ _) rfl) ?_
            first | refine al_opd rfl rfl rfl ((ao_conv ⟨_, Tryd.underlying3⟩ Tryd.underlying22 rfl).val (nw_i8 BDp BDp)) ?_ | refine al_opd rfl rfl rfl (ao_conv ⟨_, Tryd.underlying3⟩ Tryd.underlying22 rfl) ?_
            refine al_opd rfl rfl rfl (ao_mv (v := .int _ _) rfl) ?_
            first | refine al_opd rfl rfl rfl ((ao_conv ⟨_, Tryd.underlying3⟩ Tryd.underlying22 rfl).val (nw_i8 BDp BDp)) ?_ | refine al_opd rfl rfl rfl (ao_conv ⟨_, Tryd.underlying3⟩ Tryd.underlying22 rfl) ?_
            refine al_opd rfl rfl rfl (ao_build (A := #[.int .i8 (x : Int), .int .i8 (y : Int)]) Tryd.zeroValue37 (by rfl) (by first | rfl | kernel_rfl) (by rfl) (by first | rfl | kernel_rfl)) ?_
            refine al_opd rfl rfl rfl ((ao_calld (l01Wall_c (r := R) (s := ⟨(x : Int), (y : Int)⟩) (on := true) (by exact HLp) (by show 0 ≤ (x : Int) ∧ (x : Int) < 10; omega) (by show 0 ≤ (y : Int) ∧ (y : Int) < 10; omega)) Tryd.call9 rfl rfl).to (SetR.eq (by exact SRp))) ?_
            refine al_nilB ?_
            refine blockA_n ?_
            refine thenA_n ?_
            refine aw_region ?_
            refine al_opd rfl rfl rfl (ao_mv (v := .int _ _) rfl) ?_
            first | refine al_opd rfl rfl rfl ((ao_add rfl rfl).val (nw_i64 BDp BDp)) ?_ | refine al_opd rfl rfl rfl (ao_add rfl rfl) ?_
            refine al_opd rfl rfl rfl (ao_as (v := .int _ _) rfl) ?_
            refine al_nilT ?_
            obtain rfl : b = 35 := u8_is (k := 35) h8_ rfl
            exact ⟨_, by omega, _, rfl, x + 1, wallR R ⟨(x : Int), (y : Int)⟩ true, by omega, rfl, by exact SMp, by exact LEp, by exact HLp, by exact HLp, by exact HLp, (wallR_dims R _ true).1.trans ew, (wallR_dims R _ true).2.trans eh, bitsTo_yes hbt hbp (by omega) (by omega), fineTo_step hft (.inr hbp), rfl, rfl, rfl, rfl, rfl, rfl, by rfl⟩
        · try simp only [nrm] at h6_
          refine aw_exit ?_
          refine thenA_x ?_
          refine thenA_x ?_
          refine blockA_hit ?_
          refine blockA_n ?_
          refine thenA_n ?_
          refine aw_region ?_
          refine al_opd rfl rfl rfl (ao_mv (v := .int _ _) rfl) ?_
          first | refine al_opd rfl rfl rfl ((ao_add rfl rfl).val (nw_i64 BDp BDp)) ?_ | refine al_opd rfl rfl rfl (ao_add rfl rfl) ?_
          refine al_opd rfl rfl rfl (ao_as (v := .int _ _) rfl) ?_
          refine al_nilT ?_
          have hxw : x = p0.size := by omega
          subst hxw
          exact ⟨_, by omega, _, rfl, y + 1, R, by omega, rfl, by exact SMp, by exact LEp, by exact HLp, by exact HLp, by exact HLp, ew, eh, bitsTo_row hbt (fun j q1 q2 => by omega), fineTo_row hft hp (by omega), rfl, rfl, rfl, rfl, rfl, by rfl⟩
    · try simp only [nrm] at h4_
      obtain rfl : y = h := by omega
      rw [hP, e2, e1] at hbt
      refine aw_exit ?_
      refine thenA_x ?_
      refine thenA_x ?_
      refine blockA_hit ?_
      refine thenA_n ?_
      refine aw_seq ?_
      refine aw_region ?_
      first | refine al_opd rfl rfl rfl (ao_loada Tryd.isAgg26 Tryd.sizeOf26 rfl (by exact HLp) (by rfl) (by exact RFp)) ?_ | refine al_opd rfl rfl rfl (ao_loadsV (A := #[.int _ _, .int _ _, .int _ _, .int _ _, .int _ _, .int _ _, .int _ _, .int _ _, .int _ _, .int _ _, .int _ _, .int _ _]) Tryd.isAgg26 Tryd.sizeOf26 hsl0 rfl hp0 rfl (by decide)) ?_ | refine al_opd rfl rfl rfl (ao_loadsV (A := #[.int _ _, .int _ _, .int _ _, .int _ _, .int _ _, .int _ _, .int _ _, .int _ _, .int _ _, .int _ _, .int _ _, .int _ _]) Tryd.isAgg26 Tryd.sizeOf26 hsl0 rfl hpe rfl (by decide)) ?_ | refine al_opd rfl rfl rfl (ao_loadsV (A := #[.int _ _, .int _ _, .int _ _, .int _ _, .int _ _, .int _ _, .int _ _, .int _ _, .int _ _, .int _ _, .int _ _, .int _ _]) Tryd.isAgg26 Tryd.sizeOf26 hsl0 rfl hp rfl (by decide)) ?_ | refine al_opd rfl rfl rfl (ao_loadsV (A := #[.int _ _, .int _ _, .int _ _, .int _ _, .int _ _, .int _ _, .int _ _, .int _ _, .int _ _, .int _ _, .int _ _, .int _ _]) Tryd.isAgg26 Tryd.sizeOf26 hsl rfl hp0 rfl (by decide)) ?_ | refine al_opd rfl rfl rfl (ao_loadsV (A := #[.int _ _, .int _ _, .int _ _, .int _ _, .int _ _, .int _ _, .int _ _, .int _ _, .int _ _, .int _ _, .int _ _, .int _ _]) Tryd.isAgg26 Tryd.sizeOf26 hsl rfl hpe rfl (by decide)) ?_ | refine al_opd rfl rfl rfl (ao_loadsV (A := #[.int _ _, .int _ _, .int _ _, .int _ _, .int _ _, .int _ _, .int _ _, .int _ _, .int _ _, .int _ _, .int _ _, .int _ _]) Tryd.isAgg26 Tryd.sizeOf26 hsl rfl hp rfl (by decide)) ?_
      first | refine al_opd rfl rfl rfl ((ao_storeL Tryd.sizeOf26 (by rfl) (by rfl) (by exact HLp) (by exact RFp) (by exact RFp) (by exact RFp)).to (SetR.eq (by exact SRp))) ?_ | refine al_opd rfl rfl rfl ((ao_storeP (ds := [.int _ _, .int _ _, .int _ _, .int _ _, .int _ _, .int _ _, .int _ _, .int _ _, .int _ _, .int _ _, .int _ _, .int _ _]) Tryd.sizeOf26 (by rfl) (by rfl) (by exact HLp) (by exact RFp) (by exact RFp) (by exact LTp)).to (SetR.eq (by exact SRp))) ?_
      refine al_opd rfl rfl rfl (ao_as (v := .int _ _) rfl) ?_
      refine al_nilT ?_
      refine aw_ret ?_
      refine ends2 rfl (rv_cella Tryd.isAgg26 Tryd.sizeOf26 rfl (by exact HLp) (by rfl) (by exact RFp)) (rv_tmp (v := .int _ _) rfl) ?_
      exact ⟨congrArg (fun c : List Value => Value.tuple #[.agg c.toArray, .int .i64 0]) (bitsTo_back hr hbt (by omega) (by omega)), by exact SMp⟩

-- spec.ReadRoom
theorem specRead0_c {t : ByteArray} {H : AHeap} (hsz : t.size ≤ 1048576) (hno : ∀ R, okRoom R → wfRoom R → textR R ≠ t) : ACd Tryd.prog 4 [.string t] H (.tuple #[.agg (roomC ⟨0, 0, fun _ => 0⟩).toArray, .int .i64 5]) (H) := by
  have hpl := pcs_len 10 t
  obtain ⟨h, hh⟩ : ∃ h, (pcs 10 t).length = h + 1 := ⟨(pcs 10 t).length - 1, by have := pcs_pos 10 t; omega⟩
  obtain ⟨p0, hp0⟩ := get_lt (show 0 < (pcs 10 t).length by omega)
  obtain ⟨pl, hpe⟩ := get_lt (show h < (pcs 10 t).length by omega)
  have hs0 := pcs_size 10 t hp0
  refine ac_gc0 (fun β => VR.plainT β (by first | rfl | simp [plainT, plainV, plain1])) (ac_body Tryd.func4 rfl Tryd.ntmps4 rfl ?_)
  refine aw_seq ?_
  refine aw_region ?_
  refine al_opd rfl rfl rfl (ao_alloca (zv26) (by rfl)) ?_
  refine al_opd rfl rfl rfl (ao_as (v := .int _ _) rfl) ?_
  refine al_nilT ?_
  refine aw_seq ?_
  refine aw_region ?_
  refine al_opd rfl rfl rfl (ao_mv (v := .string _) rfl) ?_
  refine al_opd rfl rfl rfl (ao_calld (l01Split_c (t := t) (c := 10) (by omega)) Tryd.call7 rfl rfl) ?_
  have hsl0 : Sl ((H.push (.cells [.int .i8 0, .int .i8 0, .int .u16 0, .int .u16 0, .int .u16 0, .int .u16 0, .int .u16 0, .int .u16 0, .int .u16 0, .int .u16 0, .int .u16 0, .int .u16 0] 1)).push (.cells (fl str1 (pcs 10 t)) 1)) str1 1 (.slice (some ⟨H.next + 1, 0, none⟩) (pcs 10 t).length ((pcs 10 t).length + 1)) (pcs 10 t) := Sl.full str1_len (by exact HLp) rfl rfl rfl
  refine al_opd rfl rfl rfl (ao_as (v := .slice _ _ _) rfl) ?_
  refine al_nilT ?_
  refine aw_seq ?_
  refine aw_region ?_
  refine al_opd rfl rfl rfl (ao_mv (v := .slice _ _ _) rfl) ?_
  first | refine al_opd rfl rfl rfl (ao_lenS Tryd.underlying31 (by rfl)) ?_ | refine al_opd rfl rfl rfl (ao_lenN Tryd.underlying31 (by rfl)) ?_ | refine al_opd rfl rfl rfl (ao_lenV Tryd.underlying31 rfl hsl0) ?_ | refine al_opd rfl rfl rfl (ao_lenV Tryd.underlying31 rfl hsl) ?_
  refine al_opd rfl rfl rfl ((ao_sub rfl rfl).val (subN (n := (pcs 10 t).length) (h := h) hh (by omega))) ?_
  refine al_opd rfl rfl rfl (ao_as (v := .int _ _) rfl) ?_
  refine al_nilT ?_
  refine aw_seq ?_
  refine aw_region ?_
  refine al_opd rfl rfl rfl (ao_mv (v := .slice _ _ _) rfl) ?_
  first | refine al_opd rfl rfl rfl (ao_indexAddrS Tryd.underlying31 Tryd.sizeOf9 rfl rfl (by exact IXp) (by exact IXp)) ?_ | refine al_opd rfl rfl rfl (ao_indexV Tryd.underlying31 Tryd.sizeOf9 rfl rfl hsl0 (by exact IXp) (by exact IXp)) ?_ | refine al_opd rfl rfl rfl (ao_indexV Tryd.underlying31 Tryd.sizeOf9 rfl rfl hsl (by exact IXp) (by exact IXp)) ?_
  first | refine al_opd rfl rfl rfl (ao_load (v := .string _) Tryd.isAgg9 (by rfl) (by exact HLp) (by rfl) (by exact RFp)) ?_ | refine al_opd rfl rfl rfl (ao_loadV (j := 0) (u := .string _) Tryd.isAgg9 hsl0 rfl rfl hp0 rfl) ?_ | refine al_opd rfl rfl rfl (ao_loadV (j := 1) (u := .string _) Tryd.isAgg9 hsl0 rfl rfl hp0 rfl) ?_ | refine al_opd rfl rfl rfl (ao_loadV (j := 0) (u := .string _) Tryd.isAgg9 hsl0 rfl rfl hpe rfl) ?_ | refine al_opd rfl rfl rfl (ao_loadV (j := 1) (u := .string _) Tryd.isAgg9 hsl0 rfl rfl hpe rfl) ?_ | refine al_opd rfl rfl rfl (ao_loadV (j := 0) (u := .string _) Tryd.isAgg9 hsl0 rfl rfl hp rfl) ?_ | refine al_opd rfl rfl rfl (ao_loadV (j := 1) (u := .string _) Tryd.isAgg9 hsl0 rfl rfl hp rfl) ?_ | refine al_opd rfl rfl rfl (ao_loadV (j := 0) (u := .string _) Tryd.isAgg9 hsl rfl rfl hp0 rfl) ?_ | refine al_opd rfl rfl rfl (ao_loadV (j := 1) (u := .string _) Tryd.isAgg9 hsl rfl rfl hp0 rfl) ?_ | refine al_opd rfl rfl rfl (ao_loadV (j := 0) (u := .string _) Tryd.isAgg9 hsl rfl rfl hpe rfl) ?_ | refine al_opd rfl rfl rfl (ao_loadV (j := 1) (u := .string _) Tryd.isAgg9 hsl rfl rfl hpe rfl) ?_ | refine al_opd rfl rfl rfl (ao_loadV (j := 0) (u := .string _) Tryd.isAgg9 hsl rfl rfl hp rfl) ?_ | refine al_opd rfl rfl rfl (ao_loadV (j := 1) (u := .string _) Tryd.isAgg9 hsl rfl rfl hp rfl) ?_
  refine al_opd rfl rfl rfl (ao_lenStr Tryd.underlying9 (by rfl)) ?_
  refine al_opd rfl rfl rfl (ao_as (v := .int _ _) rfl) ?_
  refine al_nilT ?_
  refine aw_seq ?_
  refine aw_seq ?_
  refine aw_region ?_
  refine al_opd rfl rfl rfl (ao_mv (v := .slice _ _ _) rfl) ?_
  refine al_opd rfl rfl rfl (ao_mv (v := .int _ _) rfl) ?_
  first | refine al_opd rfl rfl rfl (ao_indexAddrS Tryd.underlying31 Tryd.sizeOf9 rfl rfl (by exact IXp) (by exact IXp)) ?_ | refine al_opd rfl rfl rfl (ao_indexV Tryd.underlying31 Tryd.sizeOf9 rfl rfl hsl0 (by exact IXp) (by exact IXp)) ?_ | refine al_opd rfl rfl rfl (ao_indexV Tryd.underlying31 Tryd.sizeOf9 rfl rfl hsl (by exact IXp) (by exact IXp)) ?_
  first | refine al_opd rfl rfl rfl (ao_load (v := .string _) Tryd.isAgg9 (by rfl) (by exact HLp) (by rfl) (by exact RFp)) ?_ | refine al_opd rfl rfl rfl (ao_loadV (j := 0) (u := .string _) Tryd.isAgg9 hsl0 rfl rfl hp0 rfl) ?_ | refine al_opd rfl rfl rfl (ao_loadV (j := 1) (u := .string _) Tryd.isAgg9 hsl0 rfl rfl hp0 rfl) ?_ | refine al_opd rfl rfl rfl (ao_loadV (j := 0) (u := .string _) Tryd.isAgg9 hsl0 rfl rfl hpe rfl) ?_ | refine al_opd rfl rfl rfl (ao_loadV (j := 1) (u := .string _) Tryd.isAgg9 hsl0 rfl rfl hpe rfl) ?_ | refine al_opd rfl rfl rfl (ao_loadV (j := 0) (u := .string _) Tryd.isAgg9 hsl0 rfl rfl hp rfl) ?_ | refine al_opd rfl rfl rfl (ao_loadV (j := 1) (u := .string _) Tryd.isAgg9 hsl0 rfl rfl hp rfl) ?_ | refine al_opd rfl rfl rfl (ao_loadV (j := 0) (u := .string _) Tryd.isAgg9 hsl rfl rfl hp0 rfl) ?_ | refine al_opd rfl rfl rfl (ao_loadV (j := 1) (u := .string _) Tryd.isAgg9 hsl rfl rfl hp0 rfl) ?_ | refine al_opd rfl rfl rfl (ao_loadV (j := 0) (u := .string _) Tryd.isAgg9 hsl rfl rfl hpe rfl) ?_ | refine al_opd rfl rfl rfl (ao_loadV (j := 1) (u := .string _) Tryd.isAgg9 hsl rfl rfl hpe rfl) ?_ | refine al_opd rfl rfl rfl (ao_loadV (j := 0) (u := .string _) Tryd.isAgg9 hsl rfl rfl hp rfl) ?_ | refine al_opd rfl rfl rfl (ao_loadV (j := 1) (u := .string _) Tryd.isAgg9 hsl rfl rfl hp rfl) ?_
  refine al_opd rfl rfl rfl (ao_sneq rfl rfl) ?_
  refine al_opd rfl rfl rfl (ao_mv (v := .bool _) rfl) ?_
  refine al_cases (d := 24) rfl (fun h1_ => ?_) (fun h1_ => ?_)
  · try simp only [nrm] at h1_
    refine al_gno rfl rfl rfl rfl rfl ?_
    refine al_gno rfl rfl rfl rfl rfl ?_
    refine al_gno rfl rfl rfl rfl rfl ?_
    refine al_opd rfl rfl rfl (ao_pickT rfl (v := .bool _) rfl) ?_
    refine al_opd rfl rfl rfl (ao_mv (v := .bool _) rfl) ?_
    refine al_gno rfl rfl rfl rfl rfl ?_
    refine al_gno rfl rfl rfl rfl rfl ?_
    refine al_gno rfl rfl rfl rfl rfl ?_
    refine al_opd rfl rfl rfl (ao_pickT rfl (v := .bool _) rfl) ?_
    refine al_nilT ?_
    refine aw_condT (by rfl) ⟨_, rfl⟩ ?_
    refine aw_seq ?_
    refine aw_region ?_
    refine al_opd rfl rfl rfl (ao_build (A := (roomC ⟨0, 0, fun _ => 0⟩).toArray) Tryd.zeroValue26 (by rfl) (by first | rfl | kernel_rfl) (by rfl) (by first | rfl | kernel_rfl)) ?_
    first | refine al_opd rfl rfl rfl ((ao_storeL Tryd.sizeOf26 (by rfl) (by rfl) (by exact HLp) (by exact RFp) (by exact RFp) (by exact RFp)).to (SetR.eq (by exact SRp))) ?_ | refine al_opd rfl rfl rfl ((ao_storeP (ds := [.int _ _, .int _ _, .int _ _, .int _ _, .int _ _, .int _ _, .int _ _, .int _ _, .int _ _, .int _ _, .int _ _, .int _ _]) Tryd.sizeOf26 (by rfl) (by rfl) (by exact HLp) (by exact RFp) (by exact RFp) (by exact LTp)).to (SetR.eq (by exact SRp))) ?_
    refine al_opd rfl rfl rfl (ao_as (v := .int _ _) rfl) ?_
    refine al_nilT ?_
    refine aw_ret ?_
    refine thenA_r ?_
    refine ends2 rfl (rv_cella Tryd.isAgg26 Tryd.sizeOf26 rfl (by exact HLp) (by rfl) (by exact RFp)) (rv_tmp (v := .int _ _) rfl) ?_
    exact ⟨by first | rfl | (simp [*]; (first | done | fail)), by exact SMp⟩
  · try simp only [nrm] at h1_
    refine al_gyes rfl rfl rfl rfl rfl (ao_mv (v := .int _ _) rfl) ?_
    refine al_gyes rfl rfl rfl rfl rfl (ao_calld (l00In_c) Tryd.call8 rfl rfl) ?_
    refine al_gyes rfl rfl rfl rfl rfl (ao_not rfl) ?_
    refine al_opd rfl rfl rfl (ao_pickF rfl (v := .bool _) rfl) ?_
    refine al_opd rfl rfl rfl (ao_mv (v := .bool _) rfl) ?_
    refine al_cases (d := 29) rfl (fun h2_ => ?_) (fun h2_ => ?_)
    · try simp only [nrm] at h2_
      refine al_gno rfl rfl rfl rfl rfl ?_
      refine al_gno rfl rfl rfl rfl rfl ?_
      refine al_gno rfl rfl rfl rfl rfl ?_
      refine al_opd rfl rfl rfl (ao_pickT rfl (v := .bool _) rfl) ?_
      refine al_nilT ?_
      refine aw_condT (by rfl) ⟨_, rfl⟩ ?_
      refine aw_seq ?_
      refine aw_region ?_
      refine al_opd rfl rfl rfl (ao_build (A := (roomC ⟨0, 0, fun _ => 0⟩).toArray) Tryd.zeroValue26 (by rfl) (by first | rfl | kernel_rfl) (by rfl) (by first | rfl | kernel_rfl)) ?_
      first | refine al_opd rfl rfl rfl ((ao_storeL Tryd.sizeOf26 (by rfl) (by rfl) (by exact HLp) (by exact RFp) (by exact RFp) (by exact RFp)).to (SetR.eq (by exact SRp))) ?_ | refine al_opd rfl rfl rfl ((ao_storeP (ds := [.int _ _, .int _ _, .int _ _, .int _ _, .int _ _, .int _ _, .int _ _, .int _ _, .int _ _, .int _ _, .int _ _, .int _ _]) Tryd.sizeOf26 (by rfl) (by rfl) (by exact HLp) (by exact RFp) (by exact RFp) (by exact LTp)).to (SetR.eq (by exact SRp))) ?_
      refine al_opd rfl rfl rfl (ao_as (v := .int _ _) rfl) ?_
      refine al_nilT ?_
      refine aw_ret ?_
      refine thenA_r ?_
      refine ends2 rfl (rv_cella Tryd.isAgg26 Tryd.sizeOf26 rfl (by exact HLp) (by rfl) (by exact RFp)) (rv_tmp (v := .int _ _) rfl) ?_
      exact ⟨by first | rfl | (simp [*]; (first | done | fail)), by exact SMp⟩
    · try simp only [nrm] at h2_
      refine al_gyes rfl rfl rfl rfl rfl (ao_mv (v := .int _ _) rfl) ?_
      refine al_gyes rfl rfl rfl rfl rfl (ao_calld (l00In_c) Tryd.call8 rfl rfl) ?_
      refine al_gyes rfl rfl rfl rfl rfl (ao_not rfl) ?_
      refine al_opd rfl rfl rfl (ao_pickF rfl (v := .bool _) rfl) ?_
      refine al_nilT ?_
      refine aw_cond rfl (fun h3_ => ?_) (fun h3_ => ?_)
      · try simp only [nrm] at h3_
        refine aw_seq ?_
        refine aw_region ?_
        refine al_opd rfl rfl rfl (ao_build (A := (roomC ⟨0, 0, fun _ => 0⟩).toArray) Tryd.zeroValue26 (by rfl) (by first | rfl | kernel_rfl) (by rfl) (by first | rfl | kernel_rfl)) ?_
        first | refine al_opd rfl rfl rfl ((ao_storeL Tryd.sizeOf26 (by rfl) (by rfl) (by exact HLp) (by exact RFp) (by exact RFp) (by exact RFp)).to (SetR.eq (by exact SRp))) ?_ | refine al_opd rfl rfl rfl ((ao_storeP (ds := [.int _ _, .int _ _, .int _ _, .int _ _, .int _ _, .int _ _, .int _ _, .int _ _, .int _ _, .int _ _, .int _ _, .int _ _]) Tryd.sizeOf26 (by rfl) (by rfl) (by exact HLp) (by exact RFp) (by exact RFp) (by exact LTp)).to (SetR.eq (by exact SRp))) ?_
        refine al_opd rfl rfl rfl (ao_as (v := .int _ _) rfl) ?_
        refine al_nilT ?_
        refine aw_ret ?_
        refine thenA_r ?_
        refine ends2 rfl (rv_cella Tryd.isAgg26 Tryd.sizeOf26 rfl (by exact HLp) (by rfl) (by exact RFp)) (rv_tmp (v := .int _ _) rfl) ?_
        exact ⟨by first | rfl | (simp [*]; (first | done | fail)), by exact SMp⟩
      · try simp only [nrm] at h3_
        refine aw_skipT ?_
        refine aw_seq ?_
        refine aw_region ?_
        refine al_opd rfl rfl rfl (ao_mv (v := .int _ _) rfl) ?_
        first | refine al_opd rfl rfl rfl ((ao_conv ⟨_, Tryd.underlying3⟩ Tryd.underlying22 rfl).val (nw_i8 BDp BDp)) ?_ | refine al_opd rfl rfl rfl (ao_conv ⟨_, Tryd.underlying3⟩ Tryd.underlying22 rfl) ?_
        refine al_opd rfl rfl rfl (ao_mv (v := .int _ _) rfl) ?_
        first | refine al_opd rfl rfl rfl ((ao_conv ⟨_, Tryd.underlying3⟩ Tryd.underlying22 rfl).val (nw_i8 BDp BDp)) ?_ | refine al_opd rfl rfl rfl (ao_conv ⟨_, Tryd.underlying3⟩ Tryd.underlying22 rfl) ?_
        refine al_opd rfl rfl rfl (ao_build (A := (roomC ⟨(p0.size : Int), (h : Int), fun _ => 0⟩).toArray) Tryd.zeroValue26 (by rfl) (by first | rfl | kernel_rfl) (by rfl) (by first | rfl | kernel_rfl)) ?_
        refine al_opd rfl rfl rfl (ao_alloca (zv26) (by rfl)) ?_
        first | refine al_opd rfl rfl rfl ((ao_storeL Tryd.sizeOf26 (by rfl) (by rfl) (by exact HLp) (by exact RFp) (by exact RFp) (by exact RFp)).to (SetR.eq (by exact SRp))) ?_ | refine al_opd rfl rfl rfl ((ao_storeP (ds := [.int _ _, .int _ _, .int _ _, .int _ _, .int _ _, .int _ _, .int _ _, .int _ _, .int _ _, .int _ _, .int _ _, .int _ _]) Tryd.sizeOf26 (by rfl) (by rfl) (by exact HLp) (by exact RFp) (by exact RFp) (by exact LTp)).to (SetR.eq (by exact SRp))) ?_
        refine al_nilT ?_
        refine aw_seq ?_
        refine aw_seq ?_
        refine aw_region ?_
        refine al_opd rfl rfl rfl (ao_as (v := .int _ _) rfl) ?_
        refine al_nilT ?_
        refine aw_block ?_
        refine aw_loop (fun (gk : Nat) (fr : AFr) (G : AHeap) => ∃ get : Nat → Value, fr = ⟨76, get⟩ ∧ (∃ (y : Nat) (R : Room), y ≤ h ∧ gk = h - y ∧ Same H.next H G ∧ H.next + 3 ≤ G.next ∧ G.blk H.next = some (.cells [.int .i8 0, .int .i8 0, .int .u16 0, .int .u16 0, .int .u16 0, .int .u16 0, .int .u16 0, .int .u16 0, .int .u16 0, .int .u16 0, .int .u16 0, .int .u16 0] 1) ∧ G.blk (H.next + 1) = some (.cells (fl str1 (pcs 10 t)) 1) ∧ G.blk (H.next + 2) = some (.cells (roomC R) 1) ∧ R.w = (p0.size : Int) ∧ R.h = (h : Int) ∧ bitsTo (pcs 10 t) p0.size y 0 R ∧ fineTo (pcs 10 t) p0.size y 0 ∧ get 2 = .pointer (some ⟨H.next, 0, none⟩) ∧ get 4 = .slice (some ⟨H.next + 1, 0, none⟩) (pcs 10 t).length ((pcs 10 t).length + 1) ∧ get 5 = .int .i64 (h : Nat) ∧ get 6 = .int .i64 (p0.size : Nat) ∧ get 7 = .pointer (some ⟨H.next + 2, 0, none⟩) ∧ get 8 = .int .i64 (y : Nat))) (h) ⟨_, rfl, ?_⟩ ?_
        · exact ⟨0, ⟨(p0.size : Int), (h : Int), fun _ => 0⟩, Nat.zero_le _, rfl, by exact SMp, by exact LEp, by exact HLp, by exact HLp, by exact HLp, rfl, rfl, bitsTo_init _ _ _ _, fineTo_init _ _, rfl, rfl, rfl, rfl, rfl, rfl⟩
        · rintro gk fr G ⟨get, rfl, y, R, hy, rfl, hG, hnx, hb0, hb1, hb2, ew, eh, hbt, hft, g2, g4, g5, g6, g7, g8⟩
          have hsl : Sl G str1 1 (.slice (some ⟨H.next + 1, 0, none⟩) (pcs 10 t).length ((pcs 10 t).length + 1)) (pcs 10 t) := Sl.full str1_len hb1 rfl rfl rfl
          refine aw_slot (d := 2) (v := .pointer (some ⟨H.next, 0, none⟩)) (by first | assumption | rfl) ?_
          refine aw_slot (d := 4) (v := .slice (some ⟨H.next + 1, 0, none⟩) (pcs 10 t).length ((pcs 10 t).length + 1)) (by first | assumption | rfl) ?_
          refine aw_slot (d := 5) (v := .int .i64 (h : Nat)) (by first | assumption | rfl) ?_
          refine aw_slot (d := 6) (v := .int .i64 (p0.size : Nat)) (by first | assumption | rfl) ?_
          refine aw_slot (d := 7) (v := .pointer (some ⟨H.next + 2, 0, none⟩)) (by first | assumption | rfl) ?_
          refine aw_slot (d := 8) (v := .int .i64 (y : Nat)) (by first | assumption | rfl) ?_
          refine aw_seq ?_
          refine aw_seq ?_
          refine aw_region ?_
          refine al_opd rfl rfl rfl (ao_mv (v := .int _ _) rfl) ?_
          refine al_opd rfl rfl rfl (ao_mv (v := .int _ _) rfl) ?_
          refine al_opd rfl rfl rfl (ao_lss rfl rfl) ?_
          refine al_nilT ?_
          refine aw_cond rfl (fun h4_ => ?_) (fun h4_ => ?_)
          rotate_left
          · try simp only [nrm] at h4_
            exact absurd (fine_text (show bitsTo (pcs 10 t) p0.size h 0 R by rw [show h = y by omega]; exact hbt) (by rw [show h = y by omega]; exact hft) ew eh (by omega) (by omega) (by omega) (by omega) hh hpe (empty_size h1_)) (hno R (bitsTo_ok (h := h) (by rw [show h = y by omega]; exact hbt) ew eh (by omega) (by omega) (by omega) (by omega)) (bitsTo_wf hbt ew eh (by omega) (by omega)))
          try simp only [nrm] at h4_
          obtain ⟨p, hp⟩ := get_lt (show y < (pcs 10 t).length by omega)
          have hps := pcs_size 10 t hp
          refine aw_skipT ?_
          refine aw_seq ?_
          refine aw_block ?_
          refine aw_seq ?_
          refine aw_seq ?_
          refine aw_region ?_
          refine al_opd rfl rfl rfl (ao_mv (v := .slice _ _ _) rfl) ?_
          refine al_opd rfl rfl rfl (ao_mv (v := .int _ _) rfl) ?_
          first | refine al_opd rfl rfl rfl (ao_indexAddrS Tryd.underlying31 Tryd.sizeOf9 rfl rfl (by exact IXp) (by exact IXp)) ?_ | refine al_opd rfl rfl rfl (ao_indexV Tryd.underlying31 Tryd.sizeOf9 rfl rfl hsl0 (by exact IXp) (by exact IXp)) ?_ | refine al_opd rfl rfl rfl (ao_indexV Tryd.underlying31 Tryd.sizeOf9 rfl rfl hsl (by exact IXp) (by exact IXp)) ?_
          first | refine al_opd rfl rfl rfl (ao_load (v := .string _) Tryd.isAgg9 (by rfl) (by exact HLp) (by rfl) (by exact RFp)) ?_ | refine al_opd rfl rfl rfl (ao_loadV (j := 0) (u := .string _) Tryd.isAgg9 hsl0 rfl rfl hp0 rfl) ?_ | refine al_opd rfl rfl rfl (ao_loadV (j := 1) (u := .string _) Tryd.isAgg9 hsl0 rfl rfl hp0 rfl) ?_ | refine al_opd rfl rfl rfl (ao_loadV (j := 0) (u := .string _) Tryd.isAgg9 hsl0 rfl rfl hpe rfl) ?_ | refine al_opd rfl rfl rfl (ao_loadV (j := 1) (u := .string _) Tryd.isAgg9 hsl0 rfl rfl hpe rfl) ?_ | refine al_opd rfl rfl rfl (ao_loadV (j := 0) (u := .string _) Tryd.isAgg9 hsl0 rfl rfl hp rfl) ?_ | refine al_opd rfl rfl rfl (ao_loadV (j := 1) (u := .string _) Tryd.isAgg9 hsl0 rfl rfl hp rfl) ?_ | refine al_opd rfl rfl rfl (ao_loadV (j := 0) (u := .string _) Tryd.isAgg9 hsl rfl rfl hp0 rfl) ?_ | refine al_opd rfl rfl rfl (ao_loadV (j := 1) (u := .string _) Tryd.isAgg9 hsl rfl rfl hp0 rfl) ?_ | refine al_opd rfl rfl rfl (ao_loadV (j := 0) (u := .string _) Tryd.isAgg9 hsl rfl rfl hpe rfl) ?_ | refine al_opd rfl rfl rfl (ao_loadV (j := 1) (u := .string _) Tryd.isAgg9 hsl rfl rfl hpe rfl) ?_ | refine al_opd rfl rfl rfl (ao_loadV (j := 0) (u := .string _) Tryd.isAgg9 hsl rfl rfl hp rfl) ?_ | refine al_opd rfl rfl rfl (ao_loadV (j := 1) (u := .string _) Tryd.isAgg9 hsl rfl rfl hp rfl) ?_
          refine al_opd rfl rfl rfl (ao_lenStr Tryd.underlying9 (by rfl)) ?_
          refine al_opd rfl rfl rfl (ao_mv (v := .int _ _) rfl) ?_
          refine al_opd rfl rfl rfl (ao_neq rfl rfl) ?_
          refine al_nilT ?_
          refine aw_cond rfl (fun h5_ => ?_) (fun h5_ => ?_)
          · try simp only [nrm] at h5_
            refine aw_seq ?_
            refine aw_region ?_
            refine al_opd rfl rfl rfl (ao_build (A := (roomC ⟨0, 0, fun _ => 0⟩).toArray) Tryd.zeroValue26 (by rfl) (by first | rfl | kernel_rfl) (by rfl) (by first | rfl | kernel_rfl)) ?_
            first | refine al_opd rfl rfl rfl ((ao_storeL Tryd.sizeOf26 (by rfl) (by rfl) (by exact HLp) (by exact RFp) (by exact RFp) (by exact RFp)).to (SetR.eq (by exact SRp))) ?_ | refine al_opd rfl rfl rfl ((ao_storeP (ds := [.int _ _, .int _ _, .int _ _, .int _ _, .int _ _, .int _ _, .int _ _, .int _ _, .int _ _, .int _ _, .int _ _, .int _ _]) Tryd.sizeOf26 (by rfl) (by rfl) (by exact HLp) (by exact RFp) (by exact RFp) (by exact LTp)).to (SetR.eq (by exact SRp))) ?_
            refine al_opd rfl rfl rfl (ao_as (v := .int _ _) rfl) ?_
            refine al_nilT ?_
            refine aw_ret ?_
            refine thenA_r ?_
            refine blockA_r ?_
            refine thenA_r ?_
            refine thenA_r ?_
            refine blockA_r ?_
            refine thenA_r ?_
            refine ends2 rfl (rv_cella Tryd.isAgg26 Tryd.sizeOf26 rfl (by exact HLp) (by rfl) (by exact RFp)) (rv_tmp (v := .int _ _) rfl) ?_
            exact ⟨by first | rfl | (simp [*]; (first | done | fail)), by exact SMp⟩
          · try simp only [nrm] at h5_
            refine aw_skipT ?_
            refine aw_seq ?_
            refine aw_region ?_
            refine al_opd rfl rfl rfl (ao_as (v := .int _ _) rfl) ?_
            refine al_nilT ?_
            refine aw_block ?_
            refine aw_loop (fun (gk : Nat) (fr : AFr) (G : AHeap) => ∃ get : Nat → Value, fr = ⟨76, get⟩ ∧ (∃ (x : Nat) (R : Room), x ≤ p0.size ∧ gk = p0.size - x ∧ Same H.next H G ∧ H.next + 3 ≤ G.next ∧ G.blk H.next = some (.cells [.int .i8 0, .int .i8 0, .int .u16 0, .int .u16 0, .int .u16 0, .int .u16 0, .int .u16 0, .int .u16 0, .int .u16 0, .int .u16 0, .int .u16 0, .int .u16 0] 1) ∧ G.blk (H.next + 1) = some (.cells (fl str1 (pcs 10 t)) 1) ∧ G.blk (H.next + 2) = some (.cells (roomC R) 1) ∧ R.w = (p0.size : Int) ∧ R.h = (h : Int) ∧ bitsTo (pcs 10 t) p0.size y x R ∧ fineTo (pcs 10 t) p0.size y x ∧ get 2 = .pointer (some ⟨H.next, 0, none⟩) ∧ get 4 = .slice (some ⟨H.next + 1, 0, none⟩) (pcs 10 t).length ((pcs 10 t).length + 1) ∧ get 5 = .int .i64 (h : Nat) ∧ get 6 = .int .i64 (p0.size : Nat) ∧ get 7 = .pointer (some ⟨H.next + 2, 0, none⟩) ∧ get 8 = .int .i64 (y : Nat) ∧ get 9 = .int .i64 (x : Nat))) (p0.size) ⟨_, rfl, ?_⟩ ?_
            · exact ⟨0, R, Nat.zero_le _, rfl, hG, hnx, hb0, hb1, hb2, ew, eh, hbt, hft, rfl, rfl, rfl, rfl, rfl, rfl, rfl⟩
            · rintro gk fr G ⟨get, rfl, x, R, hx, rfl, hG, hnx, hb0, hb1, hb2, ew, eh, hbt, hft, g2, g4, g5, g6, g7, g8, g9⟩
              have hsl : Sl G str1 1 (.slice (some ⟨H.next + 1, 0, none⟩) (pcs 10 t).length ((pcs 10 t).length + 1)) (pcs 10 t) := Sl.full str1_len hb1 rfl rfl rfl
              refine aw_slot (d := 2) (v := .pointer (some ⟨H.next, 0, none⟩)) (by first | assumption | rfl) ?_
              refine aw_slot (d := 4) (v := .slice (some ⟨H.next + 1, 0, none⟩) (pcs 10 t).length ((pcs 10 t).length + 1)) (by first | assumption | rfl) ?_
              refine aw_slot (d := 5) (v := .int .i64 (h : Nat)) (by first | assumption | rfl) ?_
              refine aw_slot (d := 6) (v := .int .i64 (p0.size : Nat)) (by first | assumption | rfl) ?_
              refine aw_slot (d := 7) (v := .pointer (some ⟨H.next + 2, 0, none⟩)) (by first | assumption | rfl) ?_
              refine aw_slot (d := 8) (v := .int .i64 (y : Nat)) (by first | assumption | rfl) ?_
              refine aw_slot (d := 9) (v := .int .i64 (x : Nat)) (by first | assumption | rfl) ?_
              refine aw_seq ?_
              refine aw_seq ?_
              refine aw_region ?_
              refine al_opd rfl rfl rfl (ao_mv (v := .int _ _) rfl) ?_
              refine al_opd rfl rfl rfl (ao_mv (v := .int _ _) rfl) ?_
              refine al_opd rfl rfl rfl (ao_lss rfl rfl) ?_
              refine al_nilT ?_
              refine aw_cond rfl (fun h6_ => ?_) (fun h6_ => ?_)
              · try simp only [nrm] at h6_
                obtain ⟨b, hb⟩ := strAt (show x < p.size by omega)
                have hbp : byteP (pcs 10 t) x y = some b := (byteP_of hp).trans hb
                refine aw_skipT ?_
                refine aw_seq ?_
                refine aw_block ?_
                refine aw_seq ?_
                refine aw_region ?_
                refine al_opd rfl rfl rfl (ao_mv (v := .slice _ _ _) rfl) ?_
                refine al_opd rfl rfl rfl (ao_mv (v := .int _ _) rfl) ?_
                first | refine al_opd rfl rfl rfl (ao_indexAddrS Tryd.underlying31 Tryd.sizeOf9 rfl rfl (by exact IXp) (by exact IXp)) ?_ | refine al_opd rfl rfl rfl (ao_indexV Tryd.underlying31 Tryd.sizeOf9 rfl rfl hsl0 (by exact IXp) (by exact IXp)) ?_ | refine al_opd rfl rfl rfl (ao_indexV Tryd.underlying31 Tryd.sizeOf9 rfl rfl hsl (by exact IXp) (by exact IXp)) ?_
                first | refine al_opd rfl rfl rfl (ao_load (v := .string _) Tryd.isAgg9 (by rfl) (by exact HLp) (by rfl) (by exact RFp)) ?_ | refine al_opd rfl rfl rfl (ao_loadV (j := 0) (u := .string _) Tryd.isAgg9 hsl0 rfl rfl hp0 rfl) ?_ | refine al_opd rfl rfl rfl (ao_loadV (j := 1) (u := .string _) Tryd.isAgg9 hsl0 rfl rfl hp0 rfl) ?_ | refine al_opd rfl rfl rfl (ao_loadV (j := 0) (u := .string _) Tryd.isAgg9 hsl0 rfl rfl hpe rfl) ?_ | refine al_opd rfl rfl rfl (ao_loadV (j := 1) (u := .string _) Tryd.isAgg9 hsl0 rfl rfl hpe rfl) ?_ | refine al_opd rfl rfl rfl (ao_loadV (j := 0) (u := .string _) Tryd.isAgg9 hsl0 rfl rfl hp rfl) ?_ | refine al_opd rfl rfl rfl (ao_loadV (j := 1) (u := .string _) Tryd.isAgg9 hsl0 rfl rfl hp rfl) ?_ | refine al_opd rfl rfl rfl (ao_loadV (j := 0) (u := .string _) Tryd.isAgg9 hsl rfl rfl hp0 rfl) ?_ | refine al_opd rfl rfl rfl (ao_loadV (j := 1) (u := .string _) Tryd.isAgg9 hsl rfl rfl hp0 rfl) ?_ | refine al_opd rfl rfl rfl (ao_loadV (j := 0) (u := .string _) Tryd.isAgg9 hsl rfl rfl hpe rfl) ?_ | refine al_opd rfl rfl rfl (ao_loadV (j := 1) (u := .string _) Tryd.isAgg9 hsl rfl rfl hpe rfl) ?_ | refine al_opd rfl rfl rfl (ao_loadV (j := 0) (u := .string _) Tryd.isAgg9 hsl rfl rfl hp rfl) ?_ | refine al_opd rfl rfl rfl (ao_loadV (j := 1) (u := .string _) Tryd.isAgg9 hsl rfl rfl hp rfl) ?_
                refine al_opd rfl rfl rfl (ao_mv (v := .int _ _) rfl) ?_
                refine al_opd rfl rfl rfl (ao_indexStr Tryd.underlying9 (by rfl) (by rfl) (by first | rfl | omega) (by assumption)) ?_
                refine al_nilT ?_
                refine aw_block ?_
                refine aw_seq ?_
                refine aw_region ?_
                refine al_opd rfl rfl rfl (ao_eql rfl rfl) ?_
                refine al_opd rfl rfl rfl (ao_as (v := .bool _) rfl) ?_
                refine al_nilT ?_
                refine aw_cond rfl (fun h7_ => ?_) (fun h7_ => ?_)
                · try simp only [nrm] at h7_
                  refine aw_skipB ?_
                  refine blockA_n ?_
                  refine thenA_n ?_
                  refine aw_region ?_
                  refine al_opd rfl rfl rfl (ao_mv (v := .int _ _) rfl) ?_
                  first | refine al_opd rfl rfl rfl ((ao_add rfl rfl).val (nw_i64 BDp BDp)) ?_ | refine al_opd rfl rfl rfl (ao_add rfl rfl) ?_
                  refine al_opd rfl rfl rfl (ao_as (v := .int _ _) rfl) ?_
                  refine al_nilT ?_
                  obtain rfl : b = 46 := u8_is (k := 46) h7_ rfl
                  exact ⟨_, by omega, _, rfl, x + 1, R, by omega, rfl, by exact SMp, by exact LEp, by exact HLp, by exact HLp, by exact HLp, ew, eh, bitsTo_no hbt (by rw [hbp]; decide), fineTo_step hft (.inl hbp), rfl, rfl, rfl, rfl, rfl, rfl, by rfl⟩
                · try simp only [nrm] at h7_
                  refine aw_seq ?_
                  refine aw_region ?_
                  refine al_opd rfl rfl rfl (ao_eql rfl rfl) ?_
                  refine al_opd rfl rfl rfl (ao_as (v := .bool _) rfl) ?_
                  refine al_nilT ?_
                  refine aw_cond rfl (fun h8_ => ?_) (fun h8_ => ?_)
                  · try simp only [nrm] at h8_
                    refine aw_region ?_
                    refine al_opd rfl rfl rfl (ao_mv (v := .int _ _) rfl) ?_
                    first | refine al_opd rfl rfl rfl ((ao_conv ⟨_, Tryd.underlying3⟩ Tryd.underlying22 rfl).val (nw_i8 BDp BDp)) ?_ | refine al_opd rfl rfl rfl (ao_conv ⟨_, Tryd.underlying3⟩ Tryd.underlying22 rfl) ?_
                    refine al_opd rfl rfl rfl (ao_mv (v := .int _ _) rfl) ?_
                    first | refine al_opd rfl rfl rfl ((ao_conv ⟨_, Tryd.underlying3⟩ Tryd.underlying22 rfl).val (nw_i8 BDp BDp)) ?_ | refine al_opd rfl rfl rfl (ao_conv ⟨_, Tryd.underlying3⟩ Tryd.underlying22 rfl) ?_
                    refine al_opd rfl rfl rfl (ao_build (A := #[.int .i8 (x : Int), .int .i8 (y : Int)]) Tryd.zeroValue37 (by rfl) (by first | rfl | kernel_rfl) (by rfl) (by first | rfl | kernel_rfl)) ?_
                    refine al_opd rfl rfl rfl ((ao_calld (l01Wall_c (r := R) (s := ⟨(x : Int), (y : Int)⟩) (on := true) (by exact HLp) (by show 0 ≤ (x : Int) ∧ (x : Int) < 10; omega) (by show 0 ≤ (y : Int) ∧ (y : Int) < 10; omega)) Tryd.call9 rfl rfl).to (SetR.eq (by exact SRp))) ?_
                    refine al_nilB ?_
                    refine blockA_n ?_
                    refine thenA_n ?_
                    refine aw_region ?_
                    refine al_opd rfl rfl rfl (ao_mv (v := .int _ _) rfl) ?_
                    first | refine al_opd rfl rfl rfl ((ao_add rfl rfl).val (nw_i64 BDp BDp)) ?_ | refine al_opd rfl rfl rfl (ao_add rfl rfl) ?_
                    refine al_opd rfl rfl rfl (ao_as (v := .int _ _) rfl) ?_
                    refine al_nilT ?_
                    obtain rfl : b = 35 := u8_is (k := 35) h8_ rfl
                    exact ⟨_, by omega, _, rfl, x + 1, wallR R ⟨(x : Int), (y : Int)⟩ true, by omega, rfl, by exact SMp, by exact LEp, by exact HLp, by exact HLp, by exact HLp, (wallR_dims R _ true).1.trans ew, (wallR_dims R _ true).2.trans eh, bitsTo_yes hbt hbp (by omega) (by omega), fineTo_step hft (.inr hbp), rfl, rfl, rfl, rfl, rfl, rfl, by rfl⟩
                  · try simp only [nrm] at h8_
                    refine aw_seq ?_
                    refine aw_region ?_
                    refine al_opd rfl rfl rfl (ao_build (A := (roomC ⟨0, 0, fun _ => 0⟩).toArray) Tryd.zeroValue26 (by rfl) (by first | rfl | kernel_rfl) (by rfl) (by first | rfl | kernel_rfl)) ?_
                    first | refine al_opd rfl rfl rfl ((ao_storeL Tryd.sizeOf26 (by rfl) (by rfl) (by exact HLp) (by exact RFp) (by exact RFp) (by exact RFp)).to (SetR.eq (by exact SRp))) ?_ | refine al_opd rfl rfl rfl ((ao_storeP (ds := [.int _ _, .int _ _, .int _ _, .int _ _, .int _ _, .int _ _, .int _ _, .int _ _, .int _ _, .int _ _, .int _ _, .int _ _]) Tryd.sizeOf26 (by rfl) (by rfl) (by exact HLp) (by exact RFp) (by exact RFp) (by exact LTp)).to (SetR.eq (by exact SRp))) ?_
                    refine al_opd rfl rfl rfl (ao_as (v := .int _ _) rfl) ?_
                    refine al_nilT ?_
                    refine aw_ret ?_
                    refine blockA_r ?_
                    refine blockA_r ?_
                    refine thenA_r ?_
                    refine thenA_r ?_
                    refine blockA_r ?_
                    refine blockA_r ?_
                    refine thenA_r ?_
                    refine thenA_r ?_
                    refine blockA_r ?_
                    refine thenA_r ?_
                    refine ends2 rfl (rv_cella Tryd.isAgg26 Tryd.sizeOf26 rfl (by exact HLp) (by rfl) (by exact RFp)) (rv_tmp (v := .int _ _) rfl) ?_
                    exact ⟨by first | rfl | (simp [*]; (first | done | fail)), by exact SMp⟩
              · try simp only [nrm] at h6_
                refine aw_exit ?_
                refine thenA_x ?_
                refine thenA_x ?_
                refine blockA_hit ?_
                refine blockA_n ?_
                refine thenA_n ?_
                refine aw_region ?_
                refine al_opd rfl rfl rfl (ao_mv (v := .int _ _) rfl) ?_
                first | refine al_opd rfl rfl rfl ((ao_add rfl rfl).val (nw_i64 BDp BDp)) ?_ | refine al_opd rfl rfl rfl (ao_add rfl rfl) ?_
                refine al_opd rfl rfl rfl (ao_as (v := .int _ _) rfl) ?_
                refine al_nilT ?_
                have hxw : x = p0.size := by omega
                subst hxw
                exact ⟨_, by omega, _, rfl, y + 1, R, by omega, rfl, by exact SMp, by exact LEp, by exact HLp, by exact HLp, by exact HLp, ew, eh, bitsTo_row hbt (fun j q1 q2 => by omega), fineTo_row hft hp (by omega), rfl, rfl, rfl, rfl, rfl, by rfl⟩

end Go.Proofs.YthibmgkmkhpbdaaDoor
