/- Contracts of the program's functions over abstract heaps. -/
import Derived.Test.YtmmmjdbknepjgaaDoorGb
import Derived.Test.YtmmmjdbknepjgaaDoorRm
import Derived.Test.YtmmmjdbknepjgaaDoorFr
import Derived.Test.YtmmmjdbknepjgaaDoorTx
import Derived.Test.YtmmmjdbknepjgaaDoorSp
namespace Go.Proofs.YtmmmjdbknepjgaaDoor
open Go Go.AW Go.Proofs
set_option linter.unusedVariables false
set_option linter.unusedSimpArgs false
set_option maxRecDepth 100000
set_option maxHeartbeats 2000000

-- impl.size[byte]
theorem sizeByte_c {b n c : Nat} {H : AHeap} (hn : n ≤ 4294967296) : ACd Tryd.prog 36 [.slice (some ⟨b, 0, none⟩) n c] H (.int .i64 n) (H) := by
  refine ac_gc0 (fun β => VR.plainT β (by first | rfl | simp [plainT, plainV, plain1])) (ac_body Tryd.func36 rfl Tryd.ntmps36 rfl ?_)
  refine aw_seq ?_
  refine aw_region ?_
  refine al_opd rfl rfl rfl (ao_as (v := .int _ _) rfl) ?_
  refine al_nilT ?_
  refine aw_seq ?_
  refine aw_region ?_
  refine al_opd rfl rfl rfl (ao_mv (v := .slice _ _ _) rfl) ?_
  first | refine al_opd rfl rfl rfl (ao_lenS Tryd.underlying22 (by rfl)) ?_ | refine al_opd rfl rfl rfl (ao_lenN Tryd.underlying22 (by rfl)) ?_
  refine al_opd rfl rfl rfl (ao_as (v := .int _ _) rfl) ?_
  refine al_nilT ?_
  refine aw_ret ?_
  refine ends1 rfl (rv_tmp (v := .int _ _) rfl) ?_
  exact ⟨by first | rfl | (simp [*]; (first | done | fail)), by exact SMp⟩

-- impl.size[string]
theorem sizeStr_c {b n c : Nat} {H : AHeap} (hn : n ≤ 4294967296) : ACd Tryd.prog 37 [.slice (some ⟨b, 0, none⟩) n c] H (.int .i64 n) (H) := by
  refine ac_gc0 (fun β => VR.plainT β (by first | rfl | simp [plainT, plainV, plain1])) (ac_body Tryd.func37 rfl Tryd.ntmps37 rfl ?_)
  refine aw_seq ?_
  refine aw_region ?_
  refine al_opd rfl rfl rfl (ao_as (v := .int _ _) rfl) ?_
  refine al_nilT ?_
  refine aw_seq ?_
  refine aw_region ?_
  refine al_opd rfl rfl rfl (ao_mv (v := .slice _ _ _) rfl) ?_
  first | refine al_opd rfl rfl rfl (ao_lenS Tryd.underlying57 (by rfl)) ?_ | refine al_opd rfl rfl rfl (ao_lenN Tryd.underlying57 (by rfl)) ?_
  refine al_opd rfl rfl rfl (ao_as (v := .int _ _) rfl) ?_
  refine al_nilT ?_
  refine aw_ret ?_
  refine ends1 rfl (rv_tmp (v := .int _ _) rfl) ?_
  exact ⟨by first | rfl | (simp [*]; (first | done | fail)), by exact SMp⟩

-- impl.ReadRoom
theorem implRead1_c {t : ByteArray} {r : Room} {H : AHeap} (hsz : t.size ≤ 1048576) (hw : wfRoom r) (hr : okRoom r) (hq : textR r = t) : ACd Tryd.prog 6 [.string t] H (.tuple #[.agg (roomC r).toArray, .int .i64 0]) (H) := by
  have ⟨r1, r2, r3, r4, r5⟩ := hr
  have hP : (pcs 10 t) = linesR r := by rw [← hq]; exact pcs_text r
  have hpl := pcs_len 10 t
  obtain ⟨h, hh⟩ : ∃ h, (pcs 10 t).length = h + 1 := ⟨(pcs 10 t).length - 1, by have := pcs_pos 10 t; omega⟩
  obtain ⟨p0, hp0⟩ := get_lt (show 0 < (pcs 10 t).length by omega)
  obtain ⟨pl, hpe⟩ := get_lt (show h < (pcs 10 t).length by omega)
  have hs0 := pcs_size 10 t hp0
  have e1 : h = r.h.toNat := by have := lines_len r; rw [← hP] at this; omega
  have e2 : p0.size = r.w.toNat := by (have h9 := hp0; rw [hP, lines_at r (by omega)] at h9; cases h9; rw [ofL_size, line_len])
  have e3 : pl = ⟨#[]⟩ := by (have h9 := hpe; rw [hP, e1, lines_last] at h9; cases h9; rfl)
  refine ac_gc0 (fun β => VR.plainT β (by first | rfl | simp [plainT, plainV, plain1])) (ac_body Tryd.func6 rfl Tryd.ntmps6 rfl ?_)
  refine aw_seq ?_
  refine aw_region ?_
  refine al_opd rfl rfl rfl (ao_alloca (zv28) (by rfl)) ?_
  refine al_opd rfl rfl rfl (ao_as (v := .int _ _) rfl) ?_
  refine al_nilT ?_
  refine aw_seq ?_
  refine aw_region ?_
  refine al_opd rfl rfl rfl (ao_mv (v := .string _) rfl) ?_
  refine al_opd rfl rfl rfl (ao_calld (splitS_c (t := t) (c := 10) (by omega)) Tryd.call34 rfl rfl) ?_
  have hsl0 : Sl ((H.push (.cells [.int .i8 0, .int .i8 0, .int .u16 0, .int .u16 0, .int .u16 0, .int .u16 0, .int .u16 0, .int .u16 0, .int .u16 0, .int .u16 0, .int .u16 0, .int .u16 0] 1)).push (.cells (fl str1 (pcs 10 t)) 1)) str1 1 (.slice (some ⟨H.next + 1, 0, none⟩) (pcs 10 t).length ((pcs 10 t).length + 1)) (pcs 10 t) := Sl.full str1_len (by exact HLp) rfl rfl rfl
  refine al_opd rfl rfl rfl (ao_as (v := .slice _ _ _) rfl) ?_
  refine al_nilT ?_
  refine aw_seq ?_
  refine aw_region ?_
  refine al_opd rfl rfl rfl (ao_mv (v := .slice _ _ _) rfl) ?_
  first | refine al_opd rfl rfl rfl (ao_indexAddrS Tryd.underlying57 Tryd.sizeOf9 rfl rfl (by exact IXp) (by exact IXp)) ?_ | refine al_opd rfl rfl rfl (ao_indexV Tryd.underlying57 Tryd.sizeOf9 rfl rfl hsl0 (by exact IXp) (by exact IXp)) ?_ | refine al_opd rfl rfl rfl (ao_indexV Tryd.underlying57 Tryd.sizeOf9 rfl rfl hsr (by exact IXp) (by exact IXp)) ?_
  first | refine al_opd rfl rfl rfl (ao_load (v := .string _) Tryd.isAgg9 (by rfl) (by exact HLp) (by rfl) (by exact RFp)) ?_ | refine al_opd rfl rfl rfl (ao_loadV (j := 0) (u := .string _) Tryd.isAgg9 hsl0 rfl rfl hp0 rfl) ?_ | refine al_opd rfl rfl rfl (ao_loadV (j := 1) (u := .string _) Tryd.isAgg9 hsl0 rfl rfl hp0 rfl) ?_ | refine al_opd rfl rfl rfl (ao_loadV (j := 0) (u := .string _) Tryd.isAgg9 hsl0 rfl rfl hxp rfl) ?_ | refine al_opd rfl rfl rfl (ao_loadV (j := 1) (u := .string _) Tryd.isAgg9 hsl0 rfl rfl hxp rfl) ?_ | refine al_opd rfl rfl rfl (ao_loadV (j := 0) (u := .string _) Tryd.isAgg9 hsr rfl rfl hp0 rfl) ?_ | refine al_opd rfl rfl rfl (ao_loadV (j := 1) (u := .string _) Tryd.isAgg9 hsr rfl rfl hp0 rfl) ?_ | refine al_opd rfl rfl rfl (ao_loadV (j := 0) (u := .string _) Tryd.isAgg9 hsr rfl rfl hxp rfl) ?_ | refine al_opd rfl rfl rfl (ao_loadV (j := 1) (u := .string _) Tryd.isAgg9 hsr rfl rfl hxp rfl) ?_
  refine al_opd rfl rfl rfl (ao_s2b Tryd.underlying9 Tryd.underlying22 Tryd.underlying5 (by rfl)) ?_
  refine al_opd rfl rfl rfl (ao_calld (sizeByte_c (by omega)) Tryd.call36 rfl rfl) ?_
  refine al_opd rfl rfl rfl (ao_mv (v := .slice _ _ _) rfl) ?_
  refine al_opd rfl rfl rfl (ao_calld (sizeStr_c (by omega)) Tryd.call37 rfl rfl) ?_
  refine al_opd rfl rfl rfl ((ao_sub rfl rfl).val (subN (n := (pcs 10 t).length) (h := h) hh (by omega))) ?_
  refine al_opd rfl rfl rfl (ao_calld (implOpen1_c (m := (p0.size : Nat)) (n := (h : Nat)) (by omega)) Tryd.call35 rfl rfl) ?_
  refine al_opd rfl rfl rfl (ao_mv (v := .tuple _) rfl) ?_
  refine al_opd rfl rfl rfl (ao_extract (v := .agg _) rfl rfl) ?_
  refine al_opd rfl rfl rfl (ao_extract (v := .int _ _) rfl rfl) ?_
  refine al_opd rfl rfl rfl (ao_alloca (zv28) (by rfl)) ?_
  first | refine al_opd rfl rfl rfl ((ao_storeL Tryd.sizeOf28 (by rfl) (by rfl) (by exact HLp) (by exact RFp) (by exact RFp) (by exact RFp)).to (SetR.eq (by exact SRp))) ?_ | refine al_opd rfl rfl rfl ((ao_storeP (ds := [.int _ _, .int _ _, .int _ _, .int _ _, .int _ _, .int _ _, .int _ _, .int _ _, .int _ _, .int _ _, .int _ _, .int _ _]) Tryd.sizeOf28 (by rfl) (by rfl) (by exact HLp) (by exact RFp) (by exact RFp) (by exact LTp)).to (SetR.eq (by exact SRp))) ?_
  refine al_opd rfl rfl rfl (ao_as (v := .int _ _) rfl) ?_
  refine al_nilT ?_
  refine aw_seq ?_
  refine aw_seq ?_
  refine aw_region ?_
  refine al_opd rfl rfl rfl (ao_mv (v := .int _ _) rfl) ?_
  refine al_opd rfl rfl rfl (ao_neq rfl rfl) ?_
  refine al_nilT ?_
  refine aw_cond rfl (fun h1_ => ?_) (fun h1_ => ?_)
  · try simp only [nrm] at h1_
    first | done | omega | (exfalso; revert h1_; simp; (first | done | omega))
  try simp only [nrm] at h1_
  refine aw_skipT ?_
  refine aw_seq ?_
  refine aw_seq ?_
  refine aw_region ?_
  refine al_opd rfl rfl rfl (ao_mv (v := .slice _ _ _) rfl) ?_
  refine al_opd rfl rfl rfl (ao_fieldAddr fo_28_1 rfl) ?_
  first | refine al_opd rfl rfl rfl (ao_load (v := .int _ _) Tryd.isAgg24 (by rfl) (by exact HLp) (by rfl) (by exact RFp)) ?_ | refine al_opd rfl rfl rfl (ao_loadV (j := 0) (u := .int _ _) Tryd.isAgg24 hsl0 rfl rfl hp0 rfl) ?_ | refine al_opd rfl rfl rfl (ao_loadV (j := 1) (u := .int _ _) Tryd.isAgg24 hsl0 rfl rfl hp0 rfl) ?_ | refine al_opd rfl rfl rfl (ao_loadV (j := 0) (u := .int _ _) Tryd.isAgg24 hsl0 rfl rfl hxp rfl) ?_ | refine al_opd rfl rfl rfl (ao_loadV (j := 1) (u := .int _ _) Tryd.isAgg24 hsl0 rfl rfl hxp rfl) ?_ | refine al_opd rfl rfl rfl (ao_loadV (j := 0) (u := .int _ _) Tryd.isAgg24 hsr rfl rfl hp0 rfl) ?_ | refine al_opd rfl rfl rfl (ao_loadV (j := 1) (u := .int _ _) Tryd.isAgg24 hsr rfl rfl hp0 rfl) ?_ | refine al_opd rfl rfl rfl (ao_loadV (j := 0) (u := .int _ _) Tryd.isAgg24 hsr rfl rfl hxp rfl) ?_ | refine al_opd rfl rfl rfl (ao_loadV (j := 1) (u := .int _ _) Tryd.isAgg24 hsr rfl rfl hxp rfl) ?_
  refine al_opd rfl rfl rfl (ao_sliceHi Tryd.underlying57 Tryd.sizeOf9 (by rfl) (by rfl) (by first | rfl | omega) (by exact HLp) (by rfl) (by exact IXp)) ?_
  first | refine al_opd rfl rfl rfl (ao_lenS Tryd.underlying57 (by rfl)) ?_ | refine al_opd rfl rfl rfl (ao_lenN Tryd.underlying57 (by rfl)) ?_ | refine al_opd rfl rfl rfl (ao_lenV Tryd.underlying57 rfl hsl0) ?_ | refine al_opd rfl rfl rfl (ao_lenV Tryd.underlying57 rfl hsr) ?_
  refine al_opd rfl rfl rfl (ao_mv (v := .int _ _) rfl) ?_
  refine al_nilT ?_
  refine aw_block ?_
  refine aw_loop (fun (gk : Nat) (fr : AFr) (G : AHeap) => ∃ get : Nat → Value, fr = ⟨65, get⟩ ∧ (∃ (y : Nat) (R : Room), y ≤ h ∧ gk = h - y ∧ Same H.next H G ∧ H.next + 4 ≤ G.next ∧ G.blk H.next = some (.cells [.int .i8 0, .int .i8 0, .int .u16 0, .int .u16 0, .int .u16 0, .int .u16 0, .int .u16 0, .int .u16 0, .int .u16 0, .int .u16 0, .int .u16 0, .int .u16 0] 1) ∧ G.blk (H.next + 1) = some (.cells (fl str1 (pcs 10 t)) 1) ∧ G.blk (H.next + 3) = some (.cells (roomC R) 1) ∧ R.w = (p0.size : Int) ∧ R.h = (h : Int) ∧ bitsTo (pcs 10 t) p0.size y 0 R ∧ get 0 = .string t ∧ get 2 = .pointer (some ⟨H.next, 0, none⟩) ∧ get 5 = .pointer (some ⟨H.next + 3, 0, none⟩) ∧ get 30 = .slice (some ⟨H.next + 1, 0, none⟩) h (h + 1) ∧ get 31 = .int .i64 (h : Nat) ∧ get 32 = .int .i64 (y : Nat))) (h) ⟨_, rfl, ?_⟩ ?_
  · exact ⟨0, ⟨(p0.size : Int), (h : Int), fun _ => 0⟩, Nat.zero_le _, rfl, by exact SMp, by exact LEp, by exact HLp, by exact HLp, by exact HLp, rfl, rfl, bitsTo_init _ _ _ _, rfl, rfl, rfl, rfl, rfl, rfl⟩
  · rintro gk fr G ⟨get, rfl, y, R, hy, rfl, hG, hnx, hb0, hb1, hb2, ew, eh, hbt, g0, g2, g5, g30, g31, g32⟩
    have hsr : Sl G str1 1 (.slice (some ⟨H.next + 1, 0, none⟩) h (h + 1)) ((pcs 10 t).take h) := Sl.part (i := 0) str1_len hb1 rfl rfl (by omega) rfl (by rw [List.length_take]; omega)
    refine aw_slot (d := 0) (v := .string t) (by first | assumption | rfl) ?_
    refine aw_slot (d := 2) (v := .pointer (some ⟨H.next, 0, none⟩)) (by first | assumption | rfl) ?_
    refine aw_slot (d := 5) (v := .pointer (some ⟨H.next + 3, 0, none⟩)) (by first | assumption | rfl) ?_
    refine aw_slot (d := 30) (v := .slice (some ⟨H.next + 1, 0, none⟩) h (h + 1)) (by first | assumption | rfl) ?_
    refine aw_slot (d := 31) (v := .int .i64 (h : Nat)) (by first | assumption | rfl) ?_
    refine aw_slot (d := 32) (v := .int .i64 (y : Nat)) (by first | assumption | rfl) ?_
    refine aw_seq ?_
    refine aw_region ?_
    refine al_opd rfl rfl rfl (ao_lss rfl rfl) ?_
    refine al_nilT ?_
    refine aw_seq ?_
    refine aw_cond rfl (fun h2_ => ?_) (fun h2_ => ?_)
    · try simp only [nrm] at h2_
      obtain ⟨p, hp⟩ := get_lt (show y < (pcs 10 t).length by omega)
      have hps := pcs_size 10 t hp
      have hxp : ((pcs 10 t).take h)[y]? = some p := by rw [List.getElem?_take, if_pos (by omega)]; exact hp
      obtain ⟨m, hm1, hm2, hm3, hm4⟩ := minN (a := p.size) (b := p0.size) ew
      refine aw_skipT ?_
      refine aw_seq ?_
      refine aw_block ?_
      refine aw_seq ?_
      refine aw_region ?_
      refine al_opd rfl rfl rfl (ao_mv (v := .int _ _) rfl) ?_
      first | refine al_opd rfl rfl rfl (ao_indexAddrS Tryd.underlying57 Tryd.sizeOf9 rfl rfl (by exact IXp) (by exact IXp)) ?_ | refine al_opd rfl rfl rfl (ao_indexV Tryd.underlying57 Tryd.sizeOf9 rfl rfl hsl0 (by exact IXp) (by exact IXp)) ?_ | refine al_opd rfl rfl rfl (ao_indexV Tryd.underlying57 Tryd.sizeOf9 rfl rfl hsr (by exact IXp) (by exact IXp)) ?_
      first | refine al_opd rfl rfl rfl (ao_load (v := .string _) Tryd.isAgg9 (by rfl) (by exact HLp) (by rfl) (by exact RFp)) ?_ | refine al_opd rfl rfl rfl (ao_loadV (j := 0) (u := .string _) Tryd.isAgg9 hsl0 rfl rfl hp0 rfl) ?_ | refine al_opd rfl rfl rfl (ao_loadV (j := 1) (u := .string _) Tryd.isAgg9 hsl0 rfl rfl hp0 rfl) ?_ | refine al_opd rfl rfl rfl (ao_loadV (j := 0) (u := .string _) Tryd.isAgg9 hsl0 rfl rfl hxp rfl) ?_ | refine al_opd rfl rfl rfl (ao_loadV (j := 1) (u := .string _) Tryd.isAgg9 hsl0 rfl rfl hxp rfl) ?_ | refine al_opd rfl rfl rfl (ao_loadV (j := 0) (u := .string _) Tryd.isAgg9 hsr rfl rfl hp0 rfl) ?_ | refine al_opd rfl rfl rfl (ao_loadV (j := 1) (u := .string _) Tryd.isAgg9 hsr rfl rfl hp0 rfl) ?_ | refine al_opd rfl rfl rfl (ao_loadV (j := 0) (u := .string _) Tryd.isAgg9 hsr rfl rfl hxp rfl) ?_ | refine al_opd rfl rfl rfl (ao_loadV (j := 1) (u := .string _) Tryd.isAgg9 hsr rfl rfl hxp rfl) ?_
      refine al_opd rfl rfl rfl (ao_as (v := .int _ _) rfl) ?_
      refine al_opd rfl rfl rfl (ao_as (v := .string _) rfl) ?_
      refine al_nilT ?_
      refine aw_seq ?_
      refine aw_region ?_
      refine al_opd rfl rfl rfl (ao_mv (v := .string _) rfl) ?_
      refine al_opd rfl rfl rfl (ao_lenStr Tryd.underlying9 (by rfl)) ?_
      refine al_opd rfl rfl rfl (ao_fieldAddr fo_28_0 rfl) ?_
      first | refine al_opd rfl rfl rfl (ao_load (v := .int _ _) Tryd.isAgg24 (by rfl) (by exact HLp) (by rfl) (by exact RFp)) ?_ | refine al_opd rfl rfl rfl (ao_loadV (j := 0) (u := .int _ _) Tryd.isAgg24 hsl0 rfl rfl hp0 rfl) ?_ | refine al_opd rfl rfl rfl (ao_loadV (j := 1) (u := .int _ _) Tryd.isAgg24 hsl0 rfl rfl hp0 rfl) ?_ | refine al_opd rfl rfl rfl (ao_loadV (j := 0) (u := .int _ _) Tryd.isAgg24 hsl0 rfl rfl hxp rfl) ?_ | refine al_opd rfl rfl rfl (ao_loadV (j := 1) (u := .int _ _) Tryd.isAgg24 hsl0 rfl rfl hxp rfl) ?_ | refine al_opd rfl rfl rfl (ao_loadV (j := 0) (u := .int _ _) Tryd.isAgg24 hsr rfl rfl hp0 rfl) ?_ | refine al_opd rfl rfl rfl (ao_loadV (j := 1) (u := .int _ _) Tryd.isAgg24 hsr rfl rfl hp0 rfl) ?_ | refine al_opd rfl rfl rfl (ao_loadV (j := 0) (u := .int _ _) Tryd.isAgg24 hsr rfl rfl hxp rfl) ?_ | refine al_opd rfl rfl rfl (ao_loadV (j := 1) (u := .int _ _) Tryd.isAgg24 hsr rfl rfl hxp rfl) ?_
      first | refine al_opd rfl rfl rfl ((ao_conv ⟨_, Tryd.underlying24⟩ Tryd.underlying3 rfl).val (nw_i64 BDp BDp)) ?_ | refine al_opd rfl rfl rfl (ao_conv ⟨_, Tryd.underlying24⟩ Tryd.underlying3 rfl) ?_
      refine al_opd rfl rfl rfl ((ao_min rfl rfl).val hm1) ?_
      refine al_opd rfl rfl rfl (ao_mv (v := .int _ _) rfl) ?_
      refine al_nilT ?_
      refine aw_block ?_
      refine aw_loop (fun (gk : Nat) (fr : AFr) (G : AHeap) => ∃ get : Nat → Value, fr = ⟨65, get⟩ ∧ (∃ (x : Nat) (R : Room), x ≤ m ∧ gk = m - x ∧ Same H.next H G ∧ H.next + 4 ≤ G.next ∧ G.blk H.next = some (.cells [.int .i8 0, .int .i8 0, .int .u16 0, .int .u16 0, .int .u16 0, .int .u16 0, .int .u16 0, .int .u16 0, .int .u16 0, .int .u16 0, .int .u16 0, .int .u16 0] 1) ∧ G.blk (H.next + 1) = some (.cells (fl str1 (pcs 10 t)) 1) ∧ G.blk (H.next + 3) = some (.cells (roomC R) 1) ∧ R.w = (p0.size : Int) ∧ R.h = (h : Int) ∧ bitsTo (pcs 10 t) p0.size y x R ∧ get 0 = .string t ∧ get 2 = .pointer (some ⟨H.next, 0, none⟩) ∧ get 5 = .pointer (some ⟨H.next + 3, 0, none⟩) ∧ get 30 = .slice (some ⟨H.next + 1, 0, none⟩) h (h + 1) ∧ get 31 = .int .i64 (h : Nat) ∧ get 32 = .int .i64 (y : Nat) ∧ get 7 = .int .i64 (y : Nat) ∧ get 8 = .string p ∧ get 42 = .int .i64 (m : Nat) ∧ get 43 = .int .i64 (x : Nat))) (m) ⟨_, rfl, ?_⟩ ?_
      · exact ⟨0, R, Nat.zero_le _, rfl, hG, hnx, hb0, hb1, hb2, ew, eh, hbt, rfl, rfl, rfl, rfl, rfl, rfl, rfl, rfl, rfl, rfl⟩
      · rintro gk fr G ⟨get, rfl, x, R, hx, rfl, hG, hnx, hb0, hb1, hb2, ew, eh, hbt, g0, g2, g5, g30, g31, g32, g7, g8, g42, g43⟩
        refine aw_slot (d := 0) (v := .string t) (by first | assumption | rfl) ?_
        refine aw_slot (d := 2) (v := .pointer (some ⟨H.next, 0, none⟩)) (by first | assumption | rfl) ?_
        refine aw_slot (d := 5) (v := .pointer (some ⟨H.next + 3, 0, none⟩)) (by first | assumption | rfl) ?_
        refine aw_slot (d := 30) (v := .slice (some ⟨H.next + 1, 0, none⟩) h (h + 1)) (by first | assumption | rfl) ?_
        refine aw_slot (d := 31) (v := .int .i64 (h : Nat)) (by first | assumption | rfl) ?_
        refine aw_slot (d := 32) (v := .int .i64 (y : Nat)) (by first | assumption | rfl) ?_
        refine aw_slot (d := 7) (v := .int .i64 (y : Nat)) (by first | assumption | rfl) ?_
        refine aw_slot (d := 8) (v := .string p) (by first | assumption | rfl) ?_
        refine aw_slot (d := 42) (v := .int .i64 (m : Nat)) (by first | assumption | rfl) ?_
        refine aw_slot (d := 43) (v := .int .i64 (x : Nat)) (by first | assumption | rfl) ?_
        refine aw_seq ?_
        refine aw_region ?_
        refine al_opd rfl rfl rfl (ao_lss rfl rfl) ?_
        refine al_nilT ?_
        refine aw_seq ?_
        refine aw_cond rfl (fun h3_ => ?_) (fun h3_ => ?_)
        · try simp only [nrm] at h3_
          obtain ⟨b, hb⟩ := strAt (show x < p.size by omega)
          have hbp : byteP (pcs 10 t) x y = some b := (byteP_of hp).trans hb
          refine aw_skipT ?_
          refine aw_seq ?_
          refine aw_block ?_
          refine aw_seq ?_
          refine aw_region ?_
          refine al_opd rfl rfl rfl (ao_mv (v := .int _ _) rfl) ?_
          refine al_opd rfl rfl rfl (ao_as (v := .int _ _) rfl) ?_
          refine al_nilT ?_
          refine aw_seq ?_
          refine aw_region ?_
          refine al_opd rfl rfl rfl (ao_mv (v := .string _) rfl) ?_
          refine al_opd rfl rfl rfl (ao_mv (v := .int _ _) rfl) ?_
          refine al_opd rfl rfl rfl (ao_indexStr Tryd.underlying9 (by rfl) (by rfl) (by first | rfl | omega) (by assumption)) ?_
          refine al_opd rfl rfl rfl (ao_eql rfl rfl) ?_
          refine al_nilT ?_
          refine aw_cond rfl (fun h4_ => ?_) (fun h4_ => ?_)
          · try simp only [nrm] at h4_
            refine aw_region ?_
            first | refine al_opd rfl rfl rfl (ao_loada Tryd.isAgg28 Tryd.sizeOf28 rfl (by exact HLp) (by rfl) (by exact RFp)) ?_ | refine al_opd rfl rfl rfl (ao_loadsV (A := #[.int _ _, .int _ _, .int _ _, .int _ _, .int _ _, .int _ _, .int _ _, .int _ _, .int _ _, .int _ _, .int _ _, .int _ _]) Tryd.isAgg28 Tryd.sizeOf28 hsl0 rfl hp0 rfl (by decide)) ?_ | refine al_opd rfl rfl rfl (ao_loadsV (A := #[.int _ _, .int _ _, .int _ _, .int _ _, .int _ _, .int _ _, .int _ _, .int _ _, .int _ _, .int _ _, .int _ _, .int _ _]) Tryd.isAgg28 Tryd.sizeOf28 hsl0 rfl hxp rfl (by decide)) ?_ | refine al_opd rfl rfl rfl (ao_loadsV (A := #[.int _ _, .int _ _, .int _ _, .int _ _, .int _ _, .int _ _, .int _ _, .int _ _, .int _ _, .int _ _, .int _ _, .int _ _]) Tryd.isAgg28 Tryd.sizeOf28 hsr rfl hp0 rfl (by decide)) ?_ | refine al_opd rfl rfl rfl (ao_loadsV (A := #[.int _ _, .int _ _, .int _ _, .int _ _, .int _ _, .int _ _, .int _ _, .int _ _, .int _ _, .int _ _, .int _ _, .int _ _]) Tryd.isAgg28 Tryd.sizeOf28 hsr rfl hxp rfl (by decide)) ?_
            refine al_opd rfl rfl rfl (ao_mv (v := .int _ _) rfl) ?_
            first | refine al_opd rfl rfl rfl ((ao_conv ⟨_, Tryd.underlying3⟩ Tryd.underlying24 rfl).val (nw_i8 BDp BDp)) ?_ | refine al_opd rfl rfl rfl (ao_conv ⟨_, Tryd.underlying3⟩ Tryd.underlying24 rfl) ?_
            refine al_opd rfl rfl rfl (ao_mv (v := .int _ _) rfl) ?_
            first | refine al_opd rfl rfl rfl ((ao_conv ⟨_, Tryd.underlying3⟩ Tryd.underlying24 rfl).val (nw_i8 BDp BDp)) ?_ | refine al_opd rfl rfl rfl (ao_conv ⟨_, Tryd.underlying3⟩ Tryd.underlying24 rfl) ?_
            refine al_opd rfl rfl rfl (ao_build (A := #[.int .i8 (x : Int), .int .i8 (y : Int)]) Tryd.zeroValue48 (by rfl) (by first | rfl | kernel_rfl) (by rfl) (by first | rfl | kernel_rfl)) ?_
            refine al_opd rfl rfl rfl (ao_calld (withR_c (r := R) (s := ⟨(x : Int), (y : Int)⟩) (on := true) (by show 0 ≤ (x : Int) ∧ (x : Int) < 10; omega) (by show 0 ≤ (y : Int) ∧ (y : Int) < 10; omega)) Tryd.call38 rfl rfl) ?_
            first | refine al_opd rfl rfl rfl ((ao_storeL Tryd.sizeOf28 (by rfl) (by rfl) (by exact HLp) (by exact RFp) (by exact RFp) (by exact RFp)).to (SetR.eq (by exact SRp))) ?_ | refine al_opd rfl rfl rfl ((ao_storeP (ds := [.int _ _, .int _ _, .int _ _, .int _ _, .int _ _, .int _ _, .int _ _, .int _ _, .int _ _, .int _ _, .int _ _, .int _ _]) Tryd.sizeOf28 (by rfl) (by rfl) (by exact HLp) (by exact RFp) (by exact RFp) (by exact LTp)).to (SetR.eq (by exact SRp))) ?_
            refine al_nilB ?_
            refine thenA_n ?_
            refine aw_region ?_
            first | refine al_opd rfl rfl rfl ((ao_add rfl rfl).val (nw_i64 BDp BDp)) ?_ | refine al_opd rfl rfl rfl (ao_add rfl rfl) ?_
            refine al_opd rfl rfl rfl (ao_mv (v := .int _ _) rfl) ?_
            refine al_nilT ?_
            obtain rfl : b = 35 := u8_is (k := 35) h4_ rfl
            exact ⟨_, by omega, _, rfl, x + 1, wallR R ⟨(x : Int), (y : Int)⟩ true, by omega, rfl, by exact SMp, by exact LEp, by exact HLp, by exact HLp, by exact HLp, (wallR_dims R _ true).1.trans ew, (wallR_dims R _ true).2.trans eh, bitsTo_yes hbt hbp (by omega) (by omega), rfl, rfl, rfl, rfl, rfl, rfl, rfl, rfl, rfl, by rfl⟩
          · try simp only [nrm] at h4_
            refine aw_skipB ?_
            refine thenA_n ?_
            refine aw_region ?_
            first | refine al_opd rfl rfl rfl ((ao_add rfl rfl).val (nw_i64 BDp BDp)) ?_ | refine al_opd rfl rfl rfl (ao_add rfl rfl) ?_
            refine al_opd rfl rfl rfl (ao_mv (v := .int _ _) rfl) ?_
            refine al_nilT ?_
            exact ⟨_, by omega, _, rfl, x + 1, R, by omega, rfl, by exact SMp, by exact LEp, by exact HLp, by exact HLp, by exact HLp, ew, eh, bitsTo_no hbt (by rw [hbp]; exact fun e => by cases e; exact h4_ rfl), rfl, rfl, rfl, rfl, rfl, rfl, rfl, rfl, rfl, by rfl⟩
        · try simp only [nrm] at h3_
          refine aw_exit ?_
          refine thenA_x ?_
          refine thenA_x ?_
          refine blockA_hit ?_
          refine blockA_n ?_
          refine thenA_n ?_
          refine aw_region ?_
          first | refine al_opd rfl rfl rfl ((ao_add rfl rfl).val (nw_i64 BDp BDp)) ?_ | refine al_opd rfl rfl rfl (ao_add rfl rfl) ?_
          refine al_opd rfl rfl rfl (ao_mv (v := .int _ _) rfl) ?_
          refine al_nilT ?_
          obtain rfl : x = m := by omega
          exact ⟨_, by omega, _, rfl, y + 1, R, by omega, rfl, by exact SMp, by exact LEp, by exact HLp, by exact HLp, by exact HLp, ew, eh, bitsTo_row hbt (fun j q1 q2 => by rw [byteP_of hp, ba_none (by omega)]; exact fun e => (nomatch e)), rfl, rfl, rfl, rfl, rfl, by rfl⟩
    · try simp only [nrm] at h2_
      obtain rfl : y = h := by omega
      rw [hP, e2, e1] at hbt
      rw [bitsTo_back hr hbt (by omega) (by omega)] at hb2
      refine aw_exit ?_
      refine thenA_x ?_
      refine thenA_x ?_
      refine blockA_hit ?_
      refine thenA_n ?_
      refine aw_seq ?_
      refine aw_seq ?_
      refine aw_region ?_
      first | refine al_opd rfl rfl rfl (ao_loada Tryd.isAgg28 Tryd.sizeOf28 rfl (by exact HLp) (by rfl) (by exact RFp)) ?_ | refine al_opd rfl rfl rfl (ao_loadsV (A := #[.int _ _, .int _ _, .int _ _, .int _ _, .int _ _, .int _ _, .int _ _, .int _ _, .int _ _, .int _ _, .int _ _, .int _ _]) Tryd.isAgg28 Tryd.sizeOf28 hsl0 rfl hp0 rfl (by decide)) ?_ | refine al_opd rfl rfl rfl (ao_loadsV (A := #[.int _ _, .int _ _, .int _ _, .int _ _, .int _ _, .int _ _, .int _ _, .int _ _, .int _ _, .int _ _, .int _ _, .int _ _]) Tryd.isAgg28 Tryd.sizeOf28 hsl0 rfl hxp rfl (by decide)) ?_ | refine al_opd rfl rfl rfl (ao_loadsV (A := #[.int _ _, .int _ _, .int _ _, .int _ _, .int _ _, .int _ _, .int _ _, .int _ _, .int _ _, .int _ _, .int _ _, .int _ _]) Tryd.isAgg28 Tryd.sizeOf28 hsr rfl hp0 rfl (by decide)) ?_ | refine al_opd rfl rfl rfl (ao_loadsV (A := #[.int _ _, .int _ _, .int _ _, .int _ _, .int _ _, .int _ _, .int _ _, .int _ _, .int _ _, .int _ _, .int _ _, .int _ _]) Tryd.isAgg28 Tryd.sizeOf28 hsr rfl hxp rfl (by decide)) ?_
      refine al_opd rfl rfl rfl (ao_calld (implText1_c (r := r) hw hr) Tryd.call7 rfl rfl) ?_
      refine al_opd rfl rfl rfl (ao_mv (v := .string _) rfl) ?_
      refine al_opd rfl rfl rfl (ao_sneq rfl rfl) ?_
      refine al_nilT ?_
      refine aw_cond rfl (fun h5_ => ?_) (fun h5_ => ?_)
      · try simp only [nrm] at h5_
        exact absurd (congrArg ByteArray.toList hq) h5_
      try simp only [nrm] at h5_
      refine aw_skipT ?_
      refine aw_seq ?_
      refine aw_region ?_
      first | refine al_opd rfl rfl rfl (ao_loada Tryd.isAgg28 Tryd.sizeOf28 rfl (by exact HLp) (by rfl) (by exact RFp)) ?_ | refine al_opd rfl rfl rfl (ao_loadsV (A := #[.int _ _, .int _ _, .int _ _, .int _ _, .int _ _, .int _ _, .int _ _, .int _ _, .int _ _, .int _ _, .int _ _, .int _ _]) Tryd.isAgg28 Tryd.sizeOf28 hsl0 rfl hp0 rfl (by decide)) ?_ | refine al_opd rfl rfl rfl (ao_loadsV (A := #[.int _ _, .int _ _, .int _ _, .int _ _, .int _ _, .int _ _, .int _ _, .int _ _, .int _ _, .int _ _, .int _ _, .int _ _]) Tryd.isAgg28 Tryd.sizeOf28 hsl0 rfl hxp rfl (by decide)) ?_ | refine al_opd rfl rfl rfl (ao_loadsV (A := #[.int _ _, .int _ _, .int _ _, .int _ _, .int _ _, .int _ _, .int _ _, .int _ _, .int _ _, .int _ _, .int _ _, .int _ _]) Tryd.isAgg28 Tryd.sizeOf28 hsr rfl hp0 rfl (by decide)) ?_ | refine al_opd rfl rfl rfl (ao_loadsV (A := #[.int _ _, .int _ _, .int _ _, .int _ _, .int _ _, .int _ _, .int _ _, .int _ _, .int _ _, .int _ _, .int _ _, .int _ _]) Tryd.isAgg28 Tryd.sizeOf28 hsr rfl hxp rfl (by decide)) ?_
      first | refine al_opd rfl rfl rfl ((ao_storeL Tryd.sizeOf28 (by rfl) (by rfl) (by exact HLp) (by exact RFp) (by exact RFp) (by exact RFp)).to (SetR.eq (by exact SRp))) ?_ | refine al_opd rfl rfl rfl ((ao_storeP (ds := [.int _ _, .int _ _, .int _ _, .int _ _, .int _ _, .int _ _, .int _ _, .int _ _, .int _ _, .int _ _, .int _ _, .int _ _]) Tryd.sizeOf28 (by rfl) (by rfl) (by exact HLp) (by exact RFp) (by exact RFp) (by exact LTp)).to (SetR.eq (by exact SRp))) ?_
      refine al_opd rfl rfl rfl (ao_as (v := .int _ _) rfl) ?_
      refine al_nilT ?_
      refine aw_ret ?_
      refine ends2 rfl (rv_cella Tryd.isAgg28 Tryd.sizeOf28 rfl (by exact HLp) (by rfl) (by exact RFp)) (rv_tmp (v := .int _ _) rfl) ?_
      exact ⟨by first | rfl | (simp [*]; (first | done | fail)), by exact SMp⟩

end Go.Proofs.YtmmmjdbknepjgaaDoor
