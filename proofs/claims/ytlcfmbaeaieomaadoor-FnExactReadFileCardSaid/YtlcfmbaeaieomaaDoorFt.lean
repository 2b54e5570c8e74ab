/- Contracts of the program's functions over abstract heaps. -/
import Derived.Test.YtlcfmbaeaieomaaDoorFileT
import Derived.Test.YtlcfmbaeaieomaaDoorSplit
import Derived.Test.YtlcfmbaeaieomaaDoorRm
import Derived.Test.YtlcfmbaeaieomaaDoorVr
import Derived.Test.YtlcfmbaeaieomaaDoorFl
namespace Go.Proofs.YtlcfmbaeaieomaaDoor
open Go Go.AW Go.Proofs
set_option linter.unusedVariables false
set_option linter.unusedSimpArgs false
set_option maxRecDepth 100000
set_option maxHeartbeats 2000000

-- internal/strconv.small
theorem small_c {n : Int} {H : AHeap} (h0 : 0 ≤ n) (h9 : n ≤ 9) : ACd Tryd.prog 51 [.int .i64 n] H (.string (strOf [48 + n])) (H) := by
  refine ac_gc0 (fun β => VR.plainT β (by first | rfl | simp [plainT, plainV, plain1])) (ac_body Tryd.func51 rfl Tryd.ntmps51 rfl ?_)
  refine aw_seq ?_
  refine aw_region ?_
  refine al_opd rfl rfl rfl (ao_as (v := .string _) rfl) ?_
  refine al_nilT ?_
  refine aw_seq ?_
  refine aw_seq ?_
  refine aw_region ?_
  refine al_opd rfl rfl rfl (ao_mv (v := .int _ _) rfl) ?_
  refine al_opd rfl rfl rfl (ao_lss rfl rfl) ?_
  refine al_nilT ?_
  refine aw_cond rfl (fun h1_ => ?_) (fun h1_ => ?_)
  rotate_left
  · try simp only [nrm] at h1_
    first | done | omega | (exfalso; revert h1_; simp; (first | done | omega))
  try simp only [nrm] at h1_
  refine aw_seq ?_
  refine aw_region ?_
  refine al_opd rfl rfl rfl (ao_mv (v := .int _ _) rfl) ?_
  refine al_opd rfl rfl rfl (ao_mv (v := .int _ _) rfl) ?_
  first | refine al_opd rfl rfl rfl ((ao_add rfl rfl).val (nw_i64 BDp BDp)) ?_ | refine al_opd rfl rfl rfl (ao_add rfl rfl) ?_
  refine al_opd rfl rfl rfl ((ao_sliceStr2 (l := n.toNat) (h := n.toNat + 1) Tryd.underlying9 (by rfl) (by rfl) (by rfl) (by omega) (by omega) (by omega) (by show n.toNat + 1 ≤ 36; omega)).val (congrArg Value.string (digB h0 h9 (by rfl)))) ?_
  refine al_opd rfl rfl rfl (ao_as (v := .string _) rfl) ?_
  refine al_nilT ?_
  refine aw_ret ?_
  refine thenA_r ?_
  refine ends1 rfl (rv_tmp (v := .string _) rfl) ?_
  exact ⟨rfl, by exact SMp⟩

-- internal/strconv.FormatInt
theorem fmtInt_c {n : Int} {H : AHeap} (h0 : 0 ≤ n) (h9 : n ≤ 9) : ACd Tryd.prog 46 [.int .i64 n, .int .i64 10] H (.string (strOf [48 + n])) (H) := by
  refine ac_gc0 (fun β => VR.plainT β (by first | rfl | simp [plainT, plainV, plain1])) (ac_body Tryd.func46 rfl Tryd.ntmps46 rfl ?_)
  refine aw_seq ?_
  refine aw_region ?_
  refine al_opd rfl rfl rfl (ao_as (v := .string _) rfl) ?_
  refine al_nilT ?_
  refine aw_seq ?_
  refine aw_seq ?_
  refine aw_region ?_
  refine al_opd rfl rfl rfl (ao_mv (v := .int _ _) rfl) ?_
  refine al_opd rfl rfl rfl (ao_eql rfl rfl) ?_
  refine al_nilT ?_
  refine aw_cond rfl (fun h1_ => ?_) (fun h1_ => ?_)
  rotate_left
  · try simp only [nrm] at h1_
    first | done | omega | (exfalso; revert h1_; simp; (first | done | omega))
  try simp only [nrm] at h1_
  refine aw_seq ?_
  refine aw_seq ?_
  refine aw_region ?_
  refine al_opd rfl rfl rfl (ao_mv (v := .int _ _) rfl) ?_
  refine al_opd rfl rfl rfl (ao_leq rfl rfl) ?_
  refine al_opd rfl rfl rfl (ao_mv (v := .bool _) rfl) ?_
  refine al_cases (d := 14) rfl (fun h2_ => ?_) (fun h2_ => ?_)
  rotate_left
  · try simp only [nrm] at h2_
    first | done | omega | (exfalso; revert h2_; simp; (first | done | omega))
  try simp only [nrm] at h2_
  refine al_gyes rfl rfl rfl rfl rfl (ao_mv (v := .int _ _) rfl) ?_
  refine al_gyes rfl rfl rfl rfl rfl (ao_lss rfl rfl) ?_
  refine al_opd rfl rfl rfl (ao_pickT rfl (v := .bool _) rfl) ?_
  refine al_nilT ?_
  refine aw_cond rfl (fun h3_ => ?_) (fun h3_ => ?_)
  rotate_left
  · try simp only [nrm] at h3_
    first | done | omega | (exfalso; revert h3_; simp; (first | done | omega))
  try simp only [nrm] at h3_
  refine aw_seq ?_
  refine aw_region ?_
  refine al_opd rfl rfl rfl (ao_mv (v := .int _ _) rfl) ?_
  refine al_opd rfl rfl rfl (ao_calld (small_c (n := n) h0 h9) Tryd.call51 rfl rfl) ?_
  refine al_opd rfl rfl rfl (ao_as (v := .string _) rfl) ?_
  refine al_nilT ?_
  refine aw_ret ?_
  refine thenA_r ?_
  refine thenA_r ?_
  refine ends1 rfl (rv_tmp (v := .string _) rfl) ?_
  exact ⟨by first | rfl | (simp [*]; (first | done | fail)), by exact SMp⟩

-- strconv.FormatInt
theorem fmtInt2_c {n : Int} {H : AHeap} (h0 : 0 ≤ n) (h9 : n ≤ 9) : ACd Tryd.prog 40 [.int .i64 n, .int .i64 10] H (.string (strOf [48 + n])) (H) := by
  refine ac_gc0 (fun β => VR.plainT β (by first | rfl | simp [plainT, plainV, plain1])) (ac_body Tryd.func40 rfl Tryd.ntmps40 rfl ?_)
  refine aw_seq ?_
  refine aw_region ?_
  refine al_opd rfl rfl rfl (ao_as (v := .string _) rfl) ?_
  refine al_nilT ?_
  refine aw_seq ?_
  refine aw_region ?_
  refine al_opd rfl rfl rfl (ao_mv (v := .int _ _) rfl) ?_
  refine al_opd rfl rfl rfl (ao_mv (v := .int _ _) rfl) ?_
  refine al_opd rfl rfl rfl (ao_calld (fmtInt_c (n := n) h0 h9) Tryd.call46 rfl rfl) ?_
  refine al_opd rfl rfl rfl (ao_as (v := .string _) rfl) ?_
  refine al_nilT ?_
  refine aw_ret ?_
  refine ends1 rfl (rv_tmp (v := .string _) rfl) ?_
  exact ⟨by first | rfl | (simp [*]; (first | done | fail)), by exact SMp⟩

-- impl.decimal
theorem decimal_c {n : Int} {H : AHeap} (h0 : 0 ≤ n) (h9 : n ≤ 9) : ACd Tryd.prog 21 [.int .i64 n] H (.string (strOf [48 + n])) (H) := by
  refine ac_gc0 (fun β => VR.plainT β (by first | rfl | simp [plainT, plainV, plain1])) (ac_body Tryd.func21 rfl Tryd.ntmps21 rfl ?_)
  refine aw_seq ?_
  refine aw_region ?_
  refine al_opd rfl rfl rfl (ao_as (v := .string _) rfl) ?_
  refine al_nilT ?_
  refine aw_seq ?_
  refine aw_region ?_
  refine al_opd rfl rfl rfl (ao_mv (v := .int _ _) rfl) ?_
  refine al_opd rfl rfl rfl (ao_calld (fmtInt2_c (n := n) h0 h9) Tryd.call40 rfl rfl) ?_
  refine al_opd rfl rfl rfl (ao_as (v := .string _) rfl) ?_
  refine al_nilT ?_
  refine aw_ret ?_
  refine ends1 rfl (rv_tmp (v := .string _) rfl) ?_
  exact ⟨by first | rfl | (simp [*]; (first | done | fail)), by exact SMp⟩

-- impl.FileText$1
theorem fileText1_c {s : Spot} {b : Bool} {H : AHeap} (hs : wfSpot s) (hb : b = true ↔ ¬ inB s) : ACd Tryd.prog 19 [.agg #[.int .i8 s.x, .int .i8 s.y]] H (.bool b) (H) := by
  obtain ⟨c, hc⟩ := exists_bool (isCell ⟨10, 10, fun _ => 0⟩ s)
  have hci : isCell ⟨10, 10, fun _ => 0⟩ s ↔ inB s := by unfold isCell inB; constructor <;> (intro q; simp only at q ⊢; omega)
  refine ac_gc0 (fun β => VR.plainT β (by first | rfl | simp [plainT, plainV, plain1])) (ac_body Tryd.func19 rfl Tryd.ntmps19 rfl ?_)
  refine aw_seq ?_
  refine aw_region ?_
  refine al_opd rfl rfl rfl (ao_boxa (by rfl)) ?_
  refine al_opd rfl rfl rfl (ao_as (v := .bool _) rfl) ?_
  refine al_nilT ?_
  refine aw_seq ?_
  refine aw_region ?_
  refine al_opd rfl rfl rfl (ao_build (A := (roomC ⟨10, 10, fun _ => 0⟩).toArray) Tryd.zeroValue45 (by rfl) (by first | rfl | kernel_rfl) (by rfl) (by first | rfl | kernel_rfl)) ?_
  refine al_opd rfl rfl rfl (ao_loada Tryd.isAgg37 Tryd.sizeOf37 rfl (by exact HLp) (by rfl) (by exact RFp)) ?_
  refine al_opd rfl rfl rfl (ao_calld (isCell_c (r := ⟨10, 10, fun _ => 0⟩) (s := s) (b := c) ⟨⟨by decide, by decide⟩, ⟨by decide, by decide⟩, fun _ => (by decide : (0 : Nat) < 65536)⟩ hs hc) Tryd.call20 rfl rfl) ?_
  refine al_opd rfl rfl rfl (ao_not rfl) ?_
  refine al_opd rfl rfl rfl (ao_as (v := .bool _) rfl) ?_
  refine al_nilT ?_
  refine aw_ret ?_
  refine ends1 rfl (rv_tmp (v := .bool _) rfl) ?_
  exact ⟨beqv hb (by rw [← hci, ← hc]; simp), by exact SMp⟩

-- impl.FileText
theorem implFt1_c {l : List Spot} {lb c' : Nat} {H : AHeap} (hk0 : H.blk lb = some (.cells (fl spot l) 2)) (hcc' : l.length ≤ c') (hn : l.length ≤ 4194304) (hsp : wfSpots l) (hv : plainF l) : ACd Tryd.prog 8 [.slice (some ⟨lb, 0, none⟩) l.length c'] H (.string (fileTx l)) (H) := by
  have hh0 : Sl H spot 2 (.slice (some ⟨lb, 0, none⟩) l.length c') l := Sl.full spot_len hk0 rfl rfl rfl
  have hlt0 := AHeap.lt hk0
  obtain ⟨b1, hb1⟩ := exists_bool (chain l)
  obtain ⟨bc, hbc⟩ := exists_bool (∃ j, j < l.length ∧ ∃ s, l[j]? = some s ∧ ¬ inB s)
  have hv1 := hv.1.2.1
  have hv2 := hv.1.2.2
  obtain ⟨p0, hx0⟩ := get_lt (show 0 < l.length by omega)
  have ⟨⟨q1, q2⟩, ⟨q3, q4⟩⟩ := hv.2 0 p0 hx0
  refine ac_gc0 (fun β => VR.plainT β (by first | rfl | simp [plainT, plainV, plain1])) (ac_body Tryd.func8 rfl Tryd.ntmps8 rfl ?_)
  refine aw_seq ?_
  refine aw_region ?_
  refine al_opd rfl rfl rfl (ao_as (v := .string _) rfl) ?_
  refine al_nilT ?_
  refine aw_seq ?_
  refine aw_seq ?_
  refine aw_region ?_
  refine al_opd rfl rfl rfl (ao_mv (v := .slice _ _ _) rfl) ?_
  refine al_opd rfl rfl rfl (ao_calld (isChain_c (l := l) (lb := lb) (c' := c') (b := b1) (by exact HLp) hcc' hn hb1) Tryd.call17 rfl rfl) ?_
  refine al_opd rfl rfl rfl (ao_not rfl) ?_
  refine al_opd rfl rfl rfl (ao_mv (v := .bool _) rfl) ?_
  refine al_cases (d := 8) rfl (fun h1_ => ?_) (fun h1_ => ?_)
  · try simp only [nrm] at h1_
    (rw [hb1.mpr hv.1] at h1_; cases h1_)
  try simp only [nrm] at h1_
  refine al_gyes rfl rfl rfl rfl rfl (ao_mv (v := .slice _ _ _) rfl) ?_
  refine al_gyes rfl rfl rfl rfl rfl (ao_calld (containsSp_c (fnum := 19) (fs := #[]) (cs := #[]) (l := l) (p := fun s => ¬ inB s) (b := bc) Tryd.call19 (fun i s h => by obtain ⟨b, hb⟩ := exists_bool (¬ inB s); exact ⟨b, hb, fileText1_c (s := s) (b := b) (hsp i s h) hb⟩) (hh0.mono (by exact SMp)) hn hbc) Tryd.call18 rfl rfl) ?_
  refine al_opd rfl rfl rfl (ao_pickF rfl (v := .bool _) rfl) ?_
  refine al_nilT ?_
  refine aw_cond rfl (fun h2_ => ?_) (fun h2_ => ?_)
  · try simp only [nrm] at h2_
    (obtain ⟨j, _, s, hs, hf⟩ := hbc.mp (by simpa using h2_); exact absurd (hv.2 j s hs) hf)
  try simp only [nrm] at h2_
  refine aw_skipT ?_
  refine aw_seq ?_
  refine aw_draw (m := 15) mo (by kernel_rfl) rfl (fun _ _ _ h => h) ?_
  refine dw_opd rfl rfl rfl (ao_mv (v := .slice _ _ _) rfl) ?_
  first | refine dw_opd rfl rfl rfl (ao_indexAddrS Tryd.underlying26 Tryd.sizeOf37 rfl rfl (by exact IXp) (by exact IXp)) ?_ | refine dw_opd rfl rfl rfl (ao_indexV Tryd.underlying26 Tryd.sizeOf37 rfl rfl hh0 (by exact IXp) (by exact IXp)) ?_
  refine dw_opd rfl rfl rfl (ao_fieldAddr fo_37_0 rfl) ?_
  first | refine dw_opd rfl rfl rfl (ao_load (v := .int _ _) Tryd.isAgg35 (by rfl) (by exact HLp) (by rfl) (by exact RFp)) ?_ | refine dw_opd rfl rfl rfl (ao_loadV (j := 0) (u := .int _ _) Tryd.isAgg35 hh0 rfl rfl hx0 rfl) ?_ | refine dw_opd rfl rfl rfl (ao_loadV (j := 1) (u := .int _ _) Tryd.isAgg35 hh0 rfl rfl hx0 rfl) ?_ | refine dw_opd rfl rfl rfl (ao_loadV (j := 0) (u := .int _ _) Tryd.isAgg35 hh0 rfl rfl hx rfl) ?_ | refine dw_opd rfl rfl rfl (ao_loadV (j := 1) (u := .int _ _) Tryd.isAgg35 hh0 rfl rfl hx rfl) ?_ | refine dw_opd rfl rfl rfl (ao_loadV (j := 0) (u := .int _ _) Tryd.isAgg35 hh0 rfl rfl hy rfl) ?_ | refine dw_opd rfl rfl rfl (ao_loadV (j := 1) (u := .int _ _) Tryd.isAgg35 hh0 rfl rfl hy rfl) ?_
  first | refine dw_opd rfl rfl rfl ((ao_conv ⟨_, Tryd.underlying35⟩ Tryd.underlying2 rfl).val (nw_i64 BDp BDp)) ?_ | refine dw_opd rfl rfl rfl (ao_conv ⟨_, Tryd.underlying35⟩ Tryd.underlying2 rfl) ?_
  refine dw_opd rfl rfl rfl (ao_calld (decimal_c (n := p0.x) q1 q2) Tryd.call21 rfl rfl) ?_
  refine dw_opd rfl rfl rfl ((ao_sadd rfl rfl (by simp only [strOf_size, ByteArray.size_append, sz44, sz32, List.length_cons, List.length_nil]; omega))) ?_
  refine dw_opd rfl rfl rfl (ao_mv (v := .slice _ _ _) rfl) ?_
  first | refine dw_opd rfl rfl rfl (ao_indexAddrS Tryd.underlying26 Tryd.sizeOf37 rfl rfl (by exact IXp) (by exact IXp)) ?_ | refine dw_opd rfl rfl rfl (ao_indexV Tryd.underlying26 Tryd.sizeOf37 rfl rfl hh0 (by exact IXp) (by exact IXp)) ?_
  refine dw_opd rfl rfl rfl (ao_fieldAddr fo_37_1 rfl) ?_
  first | refine dw_opd rfl rfl rfl (ao_load (v := .int _ _) Tryd.isAgg35 (by rfl) (by exact HLp) (by rfl) (by exact RFp)) ?_ | refine dw_opd rfl rfl rfl (ao_loadV (j := 0) (u := .int _ _) Tryd.isAgg35 hh0 rfl rfl hx0 rfl) ?_ | refine dw_opd rfl rfl rfl (ao_loadV (j := 1) (u := .int _ _) Tryd.isAgg35 hh0 rfl rfl hx0 rfl) ?_ | refine dw_opd rfl rfl rfl (ao_loadV (j := 0) (u := .int _ _) Tryd.isAgg35 hh0 rfl rfl hx rfl) ?_ | refine dw_opd rfl rfl rfl (ao_loadV (j := 1) (u := .int _ _) Tryd.isAgg35 hh0 rfl rfl hx rfl) ?_ | refine dw_opd rfl rfl rfl (ao_loadV (j := 0) (u := .int _ _) Tryd.isAgg35 hh0 rfl rfl hy rfl) ?_ | refine dw_opd rfl rfl rfl (ao_loadV (j := 1) (u := .int _ _) Tryd.isAgg35 hh0 rfl rfl hy rfl) ?_
  first | refine dw_opd rfl rfl rfl ((ao_conv ⟨_, Tryd.underlying35⟩ Tryd.underlying2 rfl).val (nw_i64 BDp BDp)) ?_ | refine dw_opd rfl rfl rfl (ao_conv ⟨_, Tryd.underlying35⟩ Tryd.underlying2 rfl) ?_
  refine dw_opd rfl rfl rfl (ao_calld (decimal_c (n := p0.y) q3 q4) Tryd.call21 rfl rfl) ?_
  refine dw_opd rfl rfl rfl ((ao_sadd rfl rfl (by simp only [strOf_size, ByteArray.size_append, sz44, sz32, List.length_cons, List.length_nil]; omega))) ?_
  refine dw_opd rfl rfl rfl (ao_as (v := .string _) rfl) ?_
  refine dw_end ?_
  refine al_nilT ?_
  refine aw_seq ?_
  refine aw_seq ?_
  refine aw_region ?_
  refine al_opd rfl rfl rfl (ao_as (v := .int _ _) rfl) ?_
  refine al_nilT ?_
  refine aw_block ?_
  refine aw_loop (fun (gk : Nat) (fr : AFr) (G : AHeap) => ∃ get : Nat → Value, fr = ⟨51, get⟩ ∧ (∃ k : Nat, k + 1 ≤ l.length ∧ gk = l.length - k ∧ H = G ∧ get 0 = .slice (some ⟨lb, 0, none⟩) l.length c' ∧ get 3 = .string (strOf (ftx l k)) ∧ get 4 = .int .i64 ((k + 1 : Nat) : Int))) (l.length) ⟨_, rfl, ?_⟩ ?_
  · exact ⟨0, by omega, rfl, rfl, rfl, congrArg Value.string (ftx_zero hx0), rfl⟩
  · rintro gk fr G ⟨get, rfl, k, hk, rfl, rfl, g0, g3, g4⟩
    refine aw_slot (d := 0) (v := .slice (some ⟨lb, 0, none⟩) l.length c') (by first | assumption | rfl) ?_
    refine aw_slot (d := 3) (v := .string (strOf (ftx l k))) (by first | assumption | rfl) ?_
    refine aw_slot (d := 4) (v := .int .i64 ((k + 1 : Nat) : Int)) (by first | assumption | rfl) ?_
    refine aw_seq ?_
    refine aw_seq ?_
    refine aw_region ?_
    refine al_opd rfl rfl rfl (ao_mv (v := .int _ _) rfl) ?_
    refine al_opd rfl rfl rfl (ao_mv (v := .slice _ _ _) rfl) ?_
    first | refine al_opd rfl rfl rfl (ao_lenS Tryd.underlying26 (by rfl)) ?_ | refine al_opd rfl rfl rfl (ao_lenN Tryd.underlying26 (by rfl)) ?_ | refine al_opd rfl rfl rfl (ao_lenV Tryd.underlying26 rfl hh0) ?_
    refine al_opd rfl rfl rfl (ao_lss rfl rfl) ?_
    refine al_nilT ?_
    refine aw_cond rfl (fun h3_ => ?_) (fun h3_ => ?_)
    · try simp only [nrm] at h3_
      obtain ⟨x, hx⟩ := get_lt (show k < l.length by omega)
      obtain ⟨y, hy⟩ := get_lt (show k + 1 < l.length by omega)
      have ⟨s0, s3⟩ := plain_step hv hx hy
      obtain ⟨ln, lc, hkn, hlc, hlv⟩ := side_letter s0 s3
      have htl := ftx_len l k
      refine aw_skipT ?_
      refine aw_seq ?_
      refine aw_block ?_
      refine aw_seq ?_
      refine aw_seq ?_
      refine aw_region ?_
      refine al_opd rfl rfl rfl (ao_mv (v := .int _ _) rfl) ?_
      refine al_opd rfl rfl rfl (ao_eql rfl rfl) ?_
      refine al_nilT ?_
      refine aw_cond rfl (fun h4_ => ?_) (fun h4_ => ?_)
      · try simp only [nrm] at h4_
        refine aw_region ?_
        refine al_opd rfl rfl rfl (ao_mv (v := .string _) rfl) ?_
        refine al_opd rfl rfl rfl ((ao_sadd rfl rfl (by simp only [strOf_size, ByteArray.size_append, sz44, sz32, List.length_cons, List.length_nil]; omega))) ?_
        refine al_opd rfl rfl rfl (ao_as (v := .string _) rfl) ?_
        refine al_nilT ?_
        refine aw_draw (m := 14) mo (by kernel_rfl) rfl (fun _ _ _ h => h) ?_
        refine dw_opd rfl rfl rfl (ao_mv (v := .string _) rfl) ?_
        refine dw_opd rfl rfl rfl (ao_mv (v := .slice _ _ _) rfl) ?_
        refine dw_opd rfl rfl rfl (ao_mv (v := .int _ _) rfl) ?_
        refine dw_opd rfl rfl rfl ((ao_sub rfl rfl).val (sub1 k (by omega))) ?_
        first | refine dw_opd rfl rfl rfl (ao_indexAddrS Tryd.underlying26 Tryd.sizeOf37 rfl rfl (by exact IXp) (by exact IXp)) ?_ | refine dw_opd rfl rfl rfl (ao_indexV Tryd.underlying26 Tryd.sizeOf37 rfl rfl hh0 (by exact IXp) (by exact IXp)) ?_
        first | refine dw_opd rfl rfl rfl (ao_loada Tryd.isAgg37 Tryd.sizeOf37 rfl (by exact HLp) (by rfl) (by exact RFp)) ?_ | refine dw_opd rfl rfl rfl (ao_loadsV (A := #[.int _ _, .int _ _]) Tryd.isAgg37 Tryd.sizeOf37 hh0 rfl hx0 rfl (by decide)) ?_ | refine dw_opd rfl rfl rfl (ao_loadsV (A := #[.int _ _, .int _ _]) Tryd.isAgg37 Tryd.sizeOf37 hh0 rfl hx rfl (by decide)) ?_ | refine dw_opd rfl rfl rfl (ao_loadsV (A := #[.int _ _, .int _ _]) Tryd.isAgg37 Tryd.sizeOf37 hh0 rfl hy rfl (by decide)) ?_
        refine dw_opd rfl rfl rfl (ao_mv (v := .slice _ _ _) rfl) ?_
        refine dw_opd rfl rfl rfl (ao_mv (v := .int _ _) rfl) ?_
        first | refine dw_opd rfl rfl rfl (ao_indexAddrS Tryd.underlying26 Tryd.sizeOf37 rfl rfl (by exact IXp) (by exact IXp)) ?_ | refine dw_opd rfl rfl rfl (ao_indexV Tryd.underlying26 Tryd.sizeOf37 rfl rfl hh0 (by exact IXp) (by exact IXp)) ?_
        first | refine dw_opd rfl rfl rfl (ao_loada Tryd.isAgg37 Tryd.sizeOf37 rfl (by exact HLp) (by rfl) (by exact RFp)) ?_ | refine dw_opd rfl rfl rfl (ao_loadsV (A := #[.int _ _, .int _ _]) Tryd.isAgg37 Tryd.sizeOf37 hh0 rfl hx0 rfl (by decide)) ?_ | refine dw_opd rfl rfl rfl (ao_loadsV (A := #[.int _ _, .int _ _]) Tryd.isAgg37 Tryd.sizeOf37 hh0 rfl hx rfl (by decide)) ?_ | refine dw_opd rfl rfl rfl (ao_loadsV (A := #[.int _ _, .int _ _]) Tryd.isAgg37 Tryd.sizeOf37 hh0 rfl hy rfl (by decide)) ?_
        refine dw_opd rfl rfl rfl (ao_calld (implSide_c (a := x) (b := y) (r := sideOf x y) (sideOf_first x y)) Tryd.call22 rfl rfl) ?_
        refine dw_opd rfl rfl rfl ((ao_indexStr Tryd.underlying9 (by rfl) (by rfl) hkn hlc).val hlv) ?_
        refine dw_opd rfl rfl rfl (ao_chr ⟨_, Tryd.underlying5⟩ Tryd.underlying9 rfl (ltr4_bnd _).1 (ltr4_bnd _).2) ?_
        refine dw_opd rfl rfl rfl ((ao_sadd rfl rfl (by simp only [strOf_size, ByteArray.size_append, sz44, sz32, List.length_cons, List.length_nil]; omega))) ?_
        refine dw_end ?_
        refine al_opd rfl rfl rfl (ao_as (v := .string _) rfl) ?_
        refine al_nilB ?_
        refine thenA_n ?_
        refine aw_region ?_
        refine al_opd rfl rfl rfl (ao_mv (v := .int _ _) rfl) ?_
        first | refine al_opd rfl rfl rfl ((ao_add rfl rfl).val (nw_i64 BDp BDp)) ?_ | refine al_opd rfl rfl rfl (ao_add rfl rfl) ?_
        refine al_opd rfl rfl rfl (ao_as (v := .int _ _) rfl) ?_
        refine al_nilT ?_
        exact ⟨_, by omega, _, rfl, k + 1, by omega, rfl, rfl, rfl, congrArg Value.string (ftx_one (by omega) hx hy), by rfl⟩
      · try simp only [nrm] at h4_
        refine aw_skipT ?_
        refine aw_draw (m := 14) mo (by kernel_rfl) rfl (fun _ _ _ h => h) ?_
        refine dw_opd rfl rfl rfl (ao_mv (v := .string _) rfl) ?_
        refine dw_opd rfl rfl rfl (ao_mv (v := .slice _ _ _) rfl) ?_
        refine dw_opd rfl rfl rfl (ao_mv (v := .int _ _) rfl) ?_
        refine dw_opd rfl rfl rfl ((ao_sub rfl rfl).val (sub1 k (by omega))) ?_
        first | refine dw_opd rfl rfl rfl (ao_indexAddrS Tryd.underlying26 Tryd.sizeOf37 rfl rfl (by exact IXp) (by exact IXp)) ?_ | refine dw_opd rfl rfl rfl (ao_indexV Tryd.underlying26 Tryd.sizeOf37 rfl rfl hh0 (by exact IXp) (by exact IXp)) ?_
        first | refine dw_opd rfl rfl rfl (ao_loada Tryd.isAgg37 Tryd.sizeOf37 rfl (by exact HLp) (by rfl) (by exact RFp)) ?_ | refine dw_opd rfl rfl rfl (ao_loadsV (A := #[.int _ _, .int _ _]) Tryd.isAgg37 Tryd.sizeOf37 hh0 rfl hx0 rfl (by decide)) ?_ | refine dw_opd rfl rfl rfl (ao_loadsV (A := #[.int _ _, .int _ _]) Tryd.isAgg37 Tryd.sizeOf37 hh0 rfl hx rfl (by decide)) ?_ | refine dw_opd rfl rfl rfl (ao_loadsV (A := #[.int _ _, .int _ _]) Tryd.isAgg37 Tryd.sizeOf37 hh0 rfl hy rfl (by decide)) ?_
        refine dw_opd rfl rfl rfl (ao_mv (v := .slice _ _ _) rfl) ?_
        refine dw_opd rfl rfl rfl (ao_mv (v := .int _ _) rfl) ?_
        first | refine dw_opd rfl rfl rfl (ao_indexAddrS Tryd.underlying26 Tryd.sizeOf37 rfl rfl (by exact IXp) (by exact IXp)) ?_ | refine dw_opd rfl rfl rfl (ao_indexV Tryd.underlying26 Tryd.sizeOf37 rfl rfl hh0 (by exact IXp) (by exact IXp)) ?_
        first | refine dw_opd rfl rfl rfl (ao_loada Tryd.isAgg37 Tryd.sizeOf37 rfl (by exact HLp) (by rfl) (by exact RFp)) ?_ | refine dw_opd rfl rfl rfl (ao_loadsV (A := #[.int _ _, .int _ _]) Tryd.isAgg37 Tryd.sizeOf37 hh0 rfl hx0 rfl (by decide)) ?_ | refine dw_opd rfl rfl rfl (ao_loadsV (A := #[.int _ _, .int _ _]) Tryd.isAgg37 Tryd.sizeOf37 hh0 rfl hx rfl (by decide)) ?_ | refine dw_opd rfl rfl rfl (ao_loadsV (A := #[.int _ _, .int _ _]) Tryd.isAgg37 Tryd.sizeOf37 hh0 rfl hy rfl (by decide)) ?_
        refine dw_opd rfl rfl rfl (ao_calld (implSide_c (a := x) (b := y) (r := sideOf x y) (sideOf_first x y)) Tryd.call22 rfl rfl) ?_
        refine dw_opd rfl rfl rfl ((ao_indexStr Tryd.underlying9 (by rfl) (by rfl) hkn hlc).val hlv) ?_
        refine dw_opd rfl rfl rfl (ao_chr ⟨_, Tryd.underlying5⟩ Tryd.underlying9 rfl (ltr4_bnd _).1 (ltr4_bnd _).2) ?_
        refine dw_opd rfl rfl rfl ((ao_sadd rfl rfl (by simp only [strOf_size, ByteArray.size_append, sz44, sz32, List.length_cons, List.length_nil]; omega))) ?_
        refine dw_end ?_
        refine al_opd rfl rfl rfl (ao_as (v := .string _) rfl) ?_
        refine al_nilB ?_
        refine thenA_n ?_
        refine aw_region ?_
        refine al_opd rfl rfl rfl (ao_mv (v := .int _ _) rfl) ?_
        first | refine al_opd rfl rfl rfl ((ao_add rfl rfl).val (nw_i64 BDp BDp)) ?_ | refine al_opd rfl rfl rfl (ao_add rfl rfl) ?_
        refine al_opd rfl rfl rfl (ao_as (v := .int _ _) rfl) ?_
        refine al_nilT ?_
        exact ⟨_, by omega, _, rfl, k + 1, by omega, rfl, rfl, rfl, congrArg Value.string (ftx_more (by omega) hx hy), by rfl⟩
    · try simp only [nrm] at h3_
      refine aw_exit ?_
      refine thenA_x ?_
      refine thenA_x ?_
      refine blockA_hit ?_
      refine thenA_n ?_
      refine aw_seq ?_
      refine aw_region ?_
      refine al_opd rfl rfl rfl (ao_mv (v := .string _) rfl) ?_
      refine al_opd rfl rfl rfl (ao_as (v := .string _) rfl) ?_
      refine al_nilT ?_
      refine aw_ret ?_
      refine ends1 rfl (rv_tmp (v := .string _) rfl) ?_
      have hkk : k = l.length - 1 := by omega
      subst hkk
      exact ⟨rfl, by exact SMp⟩

-- impl.FileText
theorem implFt0_c {l : List Spot} {lb c' : Nat} {H : AHeap} (hk0 : H.blk lb = some (.cells (fl spot l) 2)) (hcc' : l.length ≤ c') (hn : l.length ≤ 4194304) (hsp : wfSpots l) (hv : ¬ plainF l) : ACd Tryd.prog 8 [.slice (some ⟨lb, 0, none⟩) l.length c'] H (.string ⟨#[]⟩) (H) := by
  have hh0 : Sl H spot 2 (.slice (some ⟨lb, 0, none⟩) l.length c') l := Sl.full spot_len hk0 rfl rfl rfl
  have hlt0 := AHeap.lt hk0
  obtain ⟨b1, hb1⟩ := exists_bool (chain l)
  obtain ⟨bc, hbc⟩ := exists_bool (∃ j, j < l.length ∧ ∃ s, l[j]? = some s ∧ ¬ inB s)
  refine ac_gc0 (fun β => VR.plainT β (by first | rfl | simp [plainT, plainV, plain1])) (ac_body Tryd.func8 rfl Tryd.ntmps8 rfl ?_)
  refine aw_seq ?_
  refine aw_region ?_
  refine al_opd rfl rfl rfl (ao_as (v := .string _) rfl) ?_
  refine al_nilT ?_
  refine aw_seq ?_
  refine aw_seq ?_
  refine aw_region ?_
  refine al_opd rfl rfl rfl (ao_mv (v := .slice _ _ _) rfl) ?_
  refine al_opd rfl rfl rfl (ao_calld (isChain_c (l := l) (lb := lb) (c' := c') (b := b1) (by exact HLp) hcc' hn hb1) Tryd.call17 rfl rfl) ?_
  refine al_opd rfl rfl rfl (ao_not rfl) ?_
  refine al_opd rfl rfl rfl (ao_mv (v := .bool _) rfl) ?_
  refine al_cases (d := 8) rfl (fun h1_ => ?_) (fun h1_ => ?_)
  · try simp only [nrm] at h1_
    refine al_gno rfl rfl rfl rfl rfl ?_
    refine al_gno rfl rfl rfl rfl rfl ?_
    refine al_opd rfl rfl rfl (ao_pickT rfl (v := .bool _) rfl) ?_
    refine al_nilT ?_
    refine aw_condT (by rfl) ⟨_, rfl⟩ ?_
    refine aw_seq ?_
    refine aw_region ?_
    refine al_opd rfl rfl rfl (ao_as (v := .string _) rfl) ?_
    refine al_nilT ?_
    refine aw_ret ?_
    refine thenA_r ?_
    refine ends1 rfl (rv_tmp (v := .string _) rfl) ?_
    exact ⟨rfl, by exact SMp⟩
  · try simp only [nrm] at h1_
    refine al_gyes rfl rfl rfl rfl rfl (ao_mv (v := .slice _ _ _) rfl) ?_
    refine al_gyes rfl rfl rfl rfl rfl (ao_calld (containsSp_c (fnum := 19) (fs := #[]) (cs := #[]) (l := l) (p := fun s => ¬ inB s) (b := bc) Tryd.call19 (fun i s h => by obtain ⟨b, hb⟩ := exists_bool (¬ inB s); exact ⟨b, hb, fileText1_c (s := s) (b := b) (hsp i s h) hb⟩) (hh0.mono (by exact SMp)) hn hbc) Tryd.call18 rfl rfl) ?_
    refine al_opd rfl rfl rfl (ao_pickF rfl (v := .bool _) rfl) ?_
    refine al_nilT ?_
    refine aw_cond rfl (fun h2_ => ?_) (fun h2_ => ?_)
    rotate_left
    · try simp only [nrm] at h2_
      exact absurd ⟨hb1.mp (by simpa using h1_), fun i x hx => Classical.byContradiction fun hne => absurd (hbc.mpr ⟨i, (List.getElem?_eq_some_iff.mp hx).1, x, hx, hne⟩) (by simp_all)⟩ hv
    try simp only [nrm] at h2_
    refine aw_seq ?_
    refine aw_region ?_
    refine al_opd rfl rfl rfl (ao_as (v := .string _) rfl) ?_
    refine al_nilT ?_
    refine aw_ret ?_
    refine thenA_r ?_
    refine ends1 rfl (rv_tmp (v := .string _) rfl) ?_
    exact ⟨rfl, by exact SMp⟩

end Go.Proofs.YtlcfmbaeaieomaaDoor
