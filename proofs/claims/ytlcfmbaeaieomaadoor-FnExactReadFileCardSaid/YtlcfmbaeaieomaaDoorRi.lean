/- Contracts of the program's functions over abstract heaps. -/
import Derived.Test.YtlcfmbaeaieomaaDoorFileW
import Derived.Test.YtlcfmbaeaieomaaDoorRm
import Derived.Test.YtlcfmbaeaieomaaDoorFt
import Derived.Test.YtlcfmbaeaieomaaDoorRn
namespace Go.Proofs.YtlcfmbaeaieomaaDoor
open Go Go.AW Go.Proofs
set_option linter.unusedVariables false
set_option linter.unusedSimpArgs false
set_option maxRecDepth 100000
set_option maxHeartbeats 2000000

theorem implFtX_c {l : List Spot} {lb c' : Nat} {tx : ByteArray} {H : AHeap} (hk0 : H.blk lb = some (.cells (fl spot l) 2)) (hcc' : l.length ≤ c') (hn : l.length ≤ 4194304) (hsp : wfSpots l) (h : txIs l tx) : ACd Tryd.prog 8 [.slice (some ⟨lb, 0, none⟩) l.length c'] H (.string tx) H := by
  rcases h with ⟨h, rfl⟩ | ⟨h, rfl⟩
  · exact implFt1_c hk0 hcc' hn hsp h
  · exact implFt0_c hk0 hcc' hn hsp h

-- impl.ReadFile
theorem implRf1_c {t : ByteArray} {l : List Spot} {H : AHeap} (hsz : t.size ≤ 1048576) (hv : plainF l) (hq : fileTx l = t) : ACd Tryd.prog 11 [.string t] H (.tuple #[.slice (some ⟨H.next, 0, none⟩) l.length (l.length + 1), .int .i64 0]) (H.push (.cells (fl spot l) 2)) := by
  have hz1 := cutZ_size 32 t
  have hz2 := cutY_size 32 t
  have hz3 := cutY_size 44 (cutY 32 t)
  have hz4 := cutZ_size 44 (cutY 32 t)
  obtain ⟨m, hm1, hm2, hm3, hm4⟩ := minN (a := (cutZ 32 t).size) (b := 12) (z := 12) rfl
  have ⟨hc1, hc2, hc3, hc4⟩ := file_cut hv hq
  have hwd : (cutZ 32 t).data.toList = ls8 l := by rw [hc2]; rfl
  have hwl : (cutZ 32 t).size = l.length - 1 := by rw [ba_size, hwd, ls8_len]
  have hpath := path_back hv hwd
  have hv2 := hv.1.2.2
  have hv1 := hv.1.2.1
  have ⟨⟨x0, x9⟩, ⟨y0, y9⟩⟩ := at_inB hv
  have hN1 : numIs (cutY 44 (cutY 32 t)) (at_ l 0).x true := .inl ⟨rfl, x0, x9, hc3⟩
  have hN2 : numIs (cutZ 44 (cutY 32 t)) (at_ l 0).y true := .inl ⟨rfl, y0, y9, hc4⟩
  refine ac_gcs (vrl_fl spot_plain _) (ac_body Tryd.func11 rfl Tryd.ntmps11 rfl ?_)
  refine aw_seq ?_
  refine aw_region ?_
  refine al_opd rfl rfl rfl (ao_as (v := .slice _ _ _) rfl) ?_
  refine al_opd rfl rfl rfl (ao_as (v := .int _ _) rfl) ?_
  refine al_nilT ?_
  refine aw_seq ?_
  refine aw_region ?_
  refine al_opd rfl rfl rfl (ao_mv (v := .string _) rfl) ?_
  refine al_opd rfl rfl rfl (ao_calld (sCut_c (s := t) (c := 32) (by omega)) Tryd.call28 rfl rfl) ?_
  refine al_opd rfl rfl rfl (ao_mv (v := .tuple _) rfl) ?_
  refine al_opd rfl rfl rfl (ao_extract (v := .string _) rfl rfl) ?_
  refine al_opd rfl rfl rfl (ao_extract (v := .string _) rfl rfl) ?_
  refine al_opd rfl rfl rfl (ao_extract (v := .bool _) rfl rfl) ?_
  refine al_opd rfl rfl rfl (ao_as (v := .string _) rfl) ?_
  refine al_opd rfl rfl rfl (ao_as (v := .string _) rfl) ?_
  refine al_opd rfl rfl rfl (ao_as (v := .bool _) rfl) ?_
  refine al_nilT ?_
  refine aw_seq ?_
  refine aw_region ?_
  refine al_opd rfl rfl rfl (ao_mv (v := .string _) rfl) ?_
  refine al_opd rfl rfl rfl (ao_calld (sCut_c (s := (cutY 32 t)) (c := 44) (by omega)) Tryd.call28 rfl rfl) ?_
  refine al_opd rfl rfl rfl (ao_mv (v := .tuple _) rfl) ?_
  refine al_opd rfl rfl rfl (ao_extract (v := .string _) rfl rfl) ?_
  refine al_opd rfl rfl rfl (ao_extract (v := .string _) rfl rfl) ?_
  refine al_opd rfl rfl rfl (ao_extract (v := .bool _) rfl rfl) ?_
  refine al_opd rfl rfl rfl (ao_as (v := .string _) rfl) ?_
  refine al_opd rfl rfl rfl (ao_as (v := .string _) rfl) ?_
  refine al_opd rfl rfl rfl (ao_as (v := .bool _) rfl) ?_
  refine al_nilT ?_
  refine aw_seq ?_
  refine aw_region ?_
  refine al_opd rfl rfl rfl (ao_mv (v := .string _) rfl) ?_
  refine al_opd rfl rfl rfl (ao_calld (num_c (s := (cutY 44 (cutY 32 t))) (a := (at_ l 0).x) (one := true) (by omega) hN1) Tryd.call29 rfl rfl) ?_
  refine al_opd rfl rfl rfl (ao_mv (v := .tuple _) rfl) ?_
  refine al_opd rfl rfl rfl (ao_extract (v := .int _ _) rfl rfl) ?_
  refine al_opd rfl rfl rfl (ao_extract (v := .bool _) rfl rfl) ?_
  refine al_opd rfl rfl rfl (ao_as (v := .int _ _) rfl) ?_
  refine al_opd rfl rfl rfl (ao_as (v := .bool _) rfl) ?_
  refine al_nilT ?_
  refine aw_seq ?_
  refine aw_region ?_
  refine al_opd rfl rfl rfl (ao_mv (v := .string _) rfl) ?_
  refine al_opd rfl rfl rfl (ao_calld (num_c (s := (cutZ 44 (cutY 32 t))) (a := (at_ l 0).y) (one := true) (by omega) hN2) Tryd.call29 rfl rfl) ?_
  refine al_opd rfl rfl rfl (ao_mv (v := .tuple _) rfl) ?_
  refine al_opd rfl rfl rfl (ao_extract (v := .int _ _) rfl rfl) ?_
  refine al_opd rfl rfl rfl (ao_extract (v := .bool _) rfl rfl) ?_
  refine al_opd rfl rfl rfl (ao_as (v := .int _ _) rfl) ?_
  refine al_opd rfl rfl rfl (ao_as (v := .bool _) rfl) ?_
  refine al_nilT ?_
  refine aw_seq ?_
  refine aw_region ?_
  refine al_opd rfl rfl rfl (ao_mv (v := .int _ _) rfl) ?_
  first | refine al_opd rfl rfl rfl ((ao_conv ⟨_, Tryd.underlying2⟩ Tryd.underlying35 rfl).val (nw_i8 BDp BDp)) ?_ | refine al_opd rfl rfl rfl (ao_conv ⟨_, Tryd.underlying2⟩ Tryd.underlying35 rfl) ?_
  refine al_opd rfl rfl rfl (ao_mv (v := .int _ _) rfl) ?_
  first | refine al_opd rfl rfl rfl ((ao_conv ⟨_, Tryd.underlying2⟩ Tryd.underlying35 rfl).val (nw_i8 BDp BDp)) ?_ | refine al_opd rfl rfl rfl (ao_conv ⟨_, Tryd.underlying2⟩ Tryd.underlying35 rfl) ?_
  refine al_opd rfl rfl rfl (ao_build (A := #[.int .i8 (at_ l 0).x, .int .i8 (at_ l 0).y]) Tryd.zeroValue37 (by rfl) (by first | rfl | kernel_rfl) (by rfl) (by first | rfl | kernel_rfl)) ?_
  refine al_opd rfl rfl rfl (ao_lit1 (v := .agg _) Tryd.underlying26 Tryd.sizeOf37 Tryd.zeroValue37 (by rfl) (by rfl) rfl rfl (by rfl) (by exact RFp)) ?_
  refine al_opd rfl rfl rfl (ao_as (v := .slice _ _ _) rfl) ?_
  refine al_nilT ?_
  refine aw_seq ?_
  refine aw_seq ?_
  refine aw_region ?_
  refine al_opd rfl rfl rfl (ao_mv (v := .string _) rfl) ?_
  refine al_opd rfl rfl rfl (ao_lenStr Tryd.underlying9 (by rfl)) ?_
  refine al_opd rfl rfl rfl ((ao_min rfl rfl).val hm1) ?_
  refine al_opd rfl rfl rfl (ao_mv (v := .int _ _) rfl) ?_
  refine al_nilT ?_
  refine aw_block ?_
  refine aw_loop (fun (gk : Nat) (fr : AFr) (G : AHeap) => ∃ get : Nat → Value, fr = ⟨76, get⟩ ∧ (∃ (i qb n k : Nat), i ≤ m ∧ gk = m - i ∧ Same H.next H G ∧ H.next ≤ qb ∧ qb < G.next ∧ G.blk qb = some (.cells (fl spot (pathTo (at_ l 0) (cutZ 32 t) i)) 2) ∧ n = (pathTo (at_ l 0) (cutZ 32 t) i).length ∧ n ≤ k ∧ get 0 = .string t ∧ get 5 = .string (cutZ 32 t) ∧ get 11 = .bool true ∧ get 13 = .bool true ∧ get 14 = .slice (some ⟨qb, 0, none⟩) n k ∧ get 46 = .int .i64 (m : Nat) ∧ get 47 = .int .i64 i)) (m) ⟨_, rfl, ?_⟩ ?_
  · refine ⟨0, _, 1, _, Nat.zero_le _, rfl, by exact SMp, ?_, ?_, by exact HLp, rfl, Nat.le_refl _, rfl, rfl, rfl, rfl, rfl, rfl, rfl⟩ <;> exact LNp
  · rintro gk fr G ⟨get, rfl, i, qb, n, k, hi, rfl, hG, hqb, hlt, hkb, hn, hk, g0, g5, g11, g13, g14, g46, g47⟩
    have hni : n = i + 1 := by rw [hn, path_len]
    have hslo : Sl G spot 2 (.slice (some ⟨qb, 0, none⟩) n k) (pathTo (at_ l 0) (cutZ 32 t) i) := Sl.full spot_len hkb rfl rfl hn
    have hxi := path_at (at_ l 0) (cutZ 32 t) (Nat.le_refl i)
    refine aw_slot (d := 0) (v := .string t) (by first | assumption | rfl) ?_
    refine aw_slot (d := 5) (v := .string (cutZ 32 t)) (by first | assumption | rfl) ?_
    refine aw_slot (d := 11) (v := .bool true) (by first | assumption | rfl) ?_
    refine aw_slot (d := 13) (v := .bool true) (by first | assumption | rfl) ?_
    refine aw_slot (d := 14) (v := .slice (some ⟨qb, 0, none⟩) n k) (by first | assumption | rfl) ?_
    refine aw_slot (d := 46) (v := .int .i64 (m : Nat)) (by first | assumption | rfl) ?_
    refine aw_slot (d := 47) (v := .int .i64 i) (by first | assumption | rfl) ?_
    refine aw_seq ?_
    refine aw_region ?_
    refine al_opd rfl rfl rfl (ao_lss rfl rfl) ?_
    refine al_nilT ?_
    refine aw_seq ?_
    refine aw_cond rfl (fun h1_ => ?_) (fun h1_ => ?_)
    · try simp only [nrm] at h1_
      obtain ⟨b, hb⟩ := strAt (show i < (cutZ 32 t).size by omega)
      have hlb := lt4_bnd b
      refine aw_skipT ?_
      refine aw_seq ?_
      refine aw_block ?_
      refine aw_seq ?_
      refine aw_region ?_
      refine al_opd rfl rfl rfl (ao_mv (v := .int _ _) rfl) ?_
      refine al_opd rfl rfl rfl (ao_as (v := .int _ _) rfl) ?_
      refine al_nilT ?_
      refine aw_draw (m := 11) mo (by kernel_rfl) rfl (fun _ _ _ h => h) ?_
      refine dw_opd rfl rfl rfl (ao_mv (v := .slice _ _ _) rfl) ?_
      refine dw_opd rfl rfl rfl (ao_mv (v := .slice _ _ _) rfl) ?_
      refine dw_opd rfl rfl rfl (ao_mv (v := .int _ _) rfl) ?_
      first | refine dw_opd rfl rfl rfl (ao_indexAddrS Tryd.underlying26 Tryd.sizeOf37 rfl rfl (by exact IXp) (by exact IXp)) ?_ | refine dw_opd rfl rfl rfl (ao_indexV Tryd.underlying26 Tryd.sizeOf37 rfl rfl hslo (by exact IXp) (by exact IXp)) ?_
      first | refine dw_opd rfl rfl rfl (ao_loada Tryd.isAgg37 Tryd.sizeOf37 rfl (by exact HLp) (by rfl) (by exact RFp)) ?_ | refine dw_opd rfl rfl rfl (ao_loadsV (A := #[.int _ _, .int _ _]) Tryd.isAgg37 Tryd.sizeOf37 hslo rfl hxi rfl (by decide)) ?_
      refine dw_opd rfl rfl rfl (ao_mv (v := .string _) rfl) ?_
      refine dw_opd rfl rfl rfl (ao_mv (v := .int _ _) rfl) ?_
      refine dw_opd rfl rfl rfl (ao_indexStr Tryd.underlying9 (by rfl) (by rfl) (by first | rfl | omega) (by assumption)) ?_
      refine dw_opd rfl rfl rfl (ao_calld (sIdx4_c (b := b)) Tryd.call31 rfl rfl) ?_
      refine dw_opd rfl rfl rfl (ao_calld (implNext_c (s := posTo (at_ l 0) (cutZ 32 t) i) (k := lt4 b)) Tryd.call30 rfl rfl) ?_
      refine dw_opn rfl rfl rfl (ao_lit1 (v := .agg _) Tryd.underlying26 Tryd.sizeOf37 Tryd.zeroValue37 (by rfl) (by rfl) rfl rfl (by rfl) (by exact RFp)) ?_
      refine dw_end ?_
      refine al_opd rfl rfl rfl (ao_appC Tryd.underlying26 ⟨_, Tryd.underlying26⟩ elem37 (by rfl) (by rfl) (by exact HLp) (by (rw [fl_len spot_len, ← hn]; omega)) (by exact SCp) (by first | rfl | simp [isOne]) (by exact BDp) (by exact BDp)) ?_
      refine al_opd rfl rfl rfl (ao_as (v := .slice _ _ _) rfl) ?_
      refine al_nilB ?_
      refine thenA_n ?_
      refine aw_region ?_
      first | refine al_opd rfl rfl rfl ((ao_add rfl rfl).val (nw_i64 BDp BDp)) ?_ | refine al_opd rfl rfl rfl (ao_add rfl rfl) ?_
      refine al_opd rfl rfl rfl (ao_mv (v := .int _ _) rfl) ?_
      refine al_nilT ?_
      refine ⟨_, ?_, _, rfl, i + 1, _, n + 1, _, by omega, rfl, by exact SMp, ?_, ?_, by rw [path_succ, fl_snoc, pos_succ hb]; exact (by exact HLp), by rw [path_succ, List.length_append, ← hn]; rfl, Nat.le_succ _, rfl, rfl, rfl, rfl, rfl, rfl, by rfl⟩
      · omega
      · exact LNp
      · exact LNp
    · try simp only [nrm] at h1_
      have hil : i = l.length - 1 := by omega
      subst hil
      rw [hpath] at hkb hn
      subst hn
      refine aw_exit ?_
      refine thenA_x ?_
      refine thenA_x ?_
      refine blockA_hit ?_
      refine thenA_n ?_
      refine aw_seq ?_
      refine aw_seq ?_
      refine aw_region ?_
      refine al_opd rfl rfl rfl (ao_mv (v := .bool _) rfl) ?_
      refine al_opd rfl rfl rfl (ao_not rfl) ?_
      refine al_opd rfl rfl rfl (ao_mv (v := .bool _) rfl) ?_
      refine al_cases (d := 65) rfl (fun h2_ => ?_) (fun h2_ => ?_)
      · try simp only [nrm] at h2_
        first | done | omega | (exfalso; revert h2_; simp; (first | done | omega))
      try simp only [nrm] at h2_
      refine al_gyes rfl rfl rfl rfl rfl (ao_mv (v := .bool _) rfl) ?_
      refine al_gyes rfl rfl rfl rfl rfl (ao_not rfl) ?_
      refine al_opd rfl rfl rfl (ao_pickF rfl (v := .bool _) rfl) ?_
      refine al_opd rfl rfl rfl (ao_mv (v := .bool _) rfl) ?_
      refine al_cases (d := 69) rfl (fun h3_ => ?_) (fun h3_ => ?_)
      · try simp only [nrm] at h3_
        first | done | omega | (exfalso; revert h3_; simp; (first | done | omega))
      try simp only [nrm] at h3_
      refine al_gyes rfl rfl rfl rfl rfl (ao_mv (v := .slice _ _ _) rfl) ?_
      refine al_gyes rfl rfl rfl rfl rfl (ao_calld (implFt1_c (l := l) (lb := qb) (c' := k) (by exact HLp) hk (by omega) (fun i x h => inB_wf (hv.2 i x h)) hv) Tryd.call8 rfl rfl) ?_
      refine al_gyes rfl rfl rfl rfl rfl (ao_mv (v := .string _) rfl) ?_
      refine al_gyes rfl rfl rfl rfl rfl (ao_sneq rfl rfl) ?_
      refine al_opd rfl rfl rfl (ao_pickF rfl (v := .bool _) rfl) ?_
      refine al_nilT ?_
      refine aw_cond rfl (fun h4_ => ?_) (fun h4_ => ?_)
      · try simp only [nrm] at h4_
        exact absurd (congrArg ByteArray.toList hq) h4_
      try simp only [nrm] at h4_
      refine aw_skipT ?_
      refine aw_seq ?_
      refine aw_region ?_
      refine al_opd rfl rfl rfl (ao_mv (v := .slice _ _ _) rfl) ?_
      refine al_opd rfl rfl rfl (ao_as (v := .slice _ _ _) rfl) ?_
      refine al_opd rfl rfl rfl (ao_as (v := .int _ _) rfl) ?_
      refine al_nilT ?_
      refine aw_ret ?_
      refine ends2 rfl (rv_tmp (v := .slice _ _ _) rfl) (rv_tmp (v := .int _ _) rfl) ?_
      exact ⟨by exact SMp, qb, by omega, by exact HLp, fun ρ h => vr_tup2 (vr_sl h (by omega) (by omega)) (.int _ _)⟩

-- impl.ReadFile
theorem implRf0_c {t : ByteArray} {H : AHeap} (hsz : t.size ≤ 1048576) (hno : ∀ l, plainF l → fileTx l ≠ t) : ACd Tryd.prog 11 [.string t] H (.tuple #[.slice none 0 0, .int .i64 5]) (H) := by
  have hz1 := cutZ_size 32 t
  have hz2 := cutY_size 32 t
  have hz3 := cutY_size 44 (cutY 32 t)
  have hz4 := cutZ_size 44 (cutY 32 t)
  obtain ⟨m, hm1, hm2, hm3, hm4⟩ := minN (a := (cutZ 32 t).size) (b := 12) (z := 12) rfl
  obtain ⟨a, o1, hN1⟩ := exists_num (cutY 44 (cutY 32 t))
  obtain ⟨b0, o2, hN2⟩ := exists_num (cutZ 44 (cutY 32 t))
  have ⟨x0, x9⟩ := numIs_bnd hN1
  have ⟨y0, y9⟩ := numIs_bnd hN2
  refine ac_gc0 (fun β => VR.plainT β (by first | rfl | simp [plainT, plainV, plain1])) (ac_body Tryd.func11 rfl Tryd.ntmps11 rfl ?_)
  refine aw_seq ?_
  refine aw_region ?_
  refine al_opd rfl rfl rfl (ao_as (v := .slice _ _ _) rfl) ?_
  refine al_opd rfl rfl rfl (ao_as (v := .int _ _) rfl) ?_
  refine al_nilT ?_
  refine aw_seq ?_
  refine aw_region ?_
  refine al_opd rfl rfl rfl (ao_mv (v := .string _) rfl) ?_
  refine al_opd rfl rfl rfl (ao_calld (sCut_c (s := t) (c := 32) (by omega)) Tryd.call28 rfl rfl) ?_
  refine al_opd rfl rfl rfl (ao_mv (v := .tuple _) rfl) ?_
  refine al_opd rfl rfl rfl (ao_extract (v := .string _) rfl rfl) ?_
  refine al_opd rfl rfl rfl (ao_extract (v := .string _) rfl rfl) ?_
  refine al_opd rfl rfl rfl (ao_extract (v := .bool _) rfl rfl) ?_
  refine al_opd rfl rfl rfl (ao_as (v := .string _) rfl) ?_
  refine al_opd rfl rfl rfl (ao_as (v := .string _) rfl) ?_
  refine al_opd rfl rfl rfl (ao_as (v := .bool _) rfl) ?_
  refine al_nilT ?_
  refine aw_seq ?_
  refine aw_region ?_
  refine al_opd rfl rfl rfl (ao_mv (v := .string _) rfl) ?_
  refine al_opd rfl rfl rfl (ao_calld (sCut_c (s := (cutY 32 t)) (c := 44) (by omega)) Tryd.call28 rfl rfl) ?_
  refine al_opd rfl rfl rfl (ao_mv (v := .tuple _) rfl) ?_
  refine al_opd rfl rfl rfl (ao_extract (v := .string _) rfl rfl) ?_
  refine al_opd rfl rfl rfl (ao_extract (v := .string _) rfl rfl) ?_
  refine al_opd rfl rfl rfl (ao_extract (v := .bool _) rfl rfl) ?_
  refine al_opd rfl rfl rfl (ao_as (v := .string _) rfl) ?_
  refine al_opd rfl rfl rfl (ao_as (v := .string _) rfl) ?_
  refine al_opd rfl rfl rfl (ao_as (v := .bool _) rfl) ?_
  refine al_nilT ?_
  refine aw_seq ?_
  refine aw_region ?_
  refine al_opd rfl rfl rfl (ao_mv (v := .string _) rfl) ?_
  refine al_opd rfl rfl rfl (ao_calld (num_c (s := (cutY 44 (cutY 32 t))) (a := a) (one := o1) (by omega) hN1) Tryd.call29 rfl rfl) ?_
  refine al_opd rfl rfl rfl (ao_mv (v := .tuple _) rfl) ?_
  refine al_opd rfl rfl rfl (ao_extract (v := .int _ _) rfl rfl) ?_
  refine al_opd rfl rfl rfl (ao_extract (v := .bool _) rfl rfl) ?_
  refine al_opd rfl rfl rfl (ao_as (v := .int _ _) rfl) ?_
  refine al_opd rfl rfl rfl (ao_as (v := .bool _) rfl) ?_
  refine al_nilT ?_
  refine aw_seq ?_
  refine aw_region ?_
  refine al_opd rfl rfl rfl (ao_mv (v := .string _) rfl) ?_
  refine al_opd rfl rfl rfl (ao_calld (num_c (s := (cutZ 44 (cutY 32 t))) (a := b0) (one := o2) (by omega) hN2) Tryd.call29 rfl rfl) ?_
  refine al_opd rfl rfl rfl (ao_mv (v := .tuple _) rfl) ?_
  refine al_opd rfl rfl rfl (ao_extract (v := .int _ _) rfl rfl) ?_
  refine al_opd rfl rfl rfl (ao_extract (v := .bool _) rfl rfl) ?_
  refine al_opd rfl rfl rfl (ao_as (v := .int _ _) rfl) ?_
  refine al_opd rfl rfl rfl (ao_as (v := .bool _) rfl) ?_
  refine al_nilT ?_
  refine aw_seq ?_
  refine aw_region ?_
  refine al_opd rfl rfl rfl (ao_mv (v := .int _ _) rfl) ?_
  first | refine al_opd rfl rfl rfl ((ao_conv ⟨_, Tryd.underlying2⟩ Tryd.underlying35 rfl).val (nw_i8 BDp BDp)) ?_ | refine al_opd rfl rfl rfl (ao_conv ⟨_, Tryd.underlying2⟩ Tryd.underlying35 rfl) ?_
  refine al_opd rfl rfl rfl (ao_mv (v := .int _ _) rfl) ?_
  first | refine al_opd rfl rfl rfl ((ao_conv ⟨_, Tryd.underlying2⟩ Tryd.underlying35 rfl).val (nw_i8 BDp BDp)) ?_ | refine al_opd rfl rfl rfl (ao_conv ⟨_, Tryd.underlying2⟩ Tryd.underlying35 rfl) ?_
  refine al_opd rfl rfl rfl (ao_build (A := #[.int .i8 a, .int .i8 b0]) Tryd.zeroValue37 (by rfl) (by first | rfl | kernel_rfl) (by rfl) (by first | rfl | kernel_rfl)) ?_
  refine al_opd rfl rfl rfl (ao_lit1 (v := .agg _) Tryd.underlying26 Tryd.sizeOf37 Tryd.zeroValue37 (by rfl) (by rfl) rfl rfl (by rfl) (by exact RFp)) ?_
  refine al_opd rfl rfl rfl (ao_as (v := .slice _ _ _) rfl) ?_
  refine al_nilT ?_
  refine aw_seq ?_
  refine aw_seq ?_
  refine aw_region ?_
  refine al_opd rfl rfl rfl (ao_mv (v := .string _) rfl) ?_
  refine al_opd rfl rfl rfl (ao_lenStr Tryd.underlying9 (by rfl)) ?_
  refine al_opd rfl rfl rfl ((ao_min rfl rfl).val hm1) ?_
  refine al_opd rfl rfl rfl (ao_mv (v := .int _ _) rfl) ?_
  refine al_nilT ?_
  refine aw_block ?_
  refine aw_loop (fun (gk : Nat) (fr : AFr) (G : AHeap) => ∃ get : Nat → Value, fr = ⟨76, get⟩ ∧ (∃ (i qb n k : Nat), i ≤ m ∧ gk = m - i ∧ Same H.next H G ∧ H.next ≤ qb ∧ qb < G.next ∧ G.blk qb = some (.cells (fl spot (pathTo ⟨a, b0⟩ (cutZ 32 t) i)) 2) ∧ n = (pathTo ⟨a, b0⟩ (cutZ 32 t) i).length ∧ n ≤ k ∧ get 0 = .string t ∧ get 5 = .string (cutZ 32 t) ∧ get 11 = .bool o1 ∧ get 13 = .bool o2 ∧ get 14 = .slice (some ⟨qb, 0, none⟩) n k ∧ get 46 = .int .i64 (m : Nat) ∧ get 47 = .int .i64 i)) (m) ⟨_, rfl, ?_⟩ ?_
  · refine ⟨0, _, 1, _, Nat.zero_le _, rfl, by exact SMp, ?_, ?_, by exact HLp, rfl, Nat.le_refl _, rfl, rfl, rfl, rfl, rfl, rfl, rfl⟩ <;> exact LNp
  · rintro gk fr G ⟨get, rfl, i, qb, n, k, hi, rfl, hG, hqb, hlt, hkb, hn, hk, g0, g5, g11, g13, g14, g46, g47⟩
    have hni : n = i + 1 := by rw [hn, path_len]
    have hslo : Sl G spot 2 (.slice (some ⟨qb, 0, none⟩) n k) (pathTo ⟨a, b0⟩ (cutZ 32 t) i) := Sl.full spot_len hkb rfl rfl hn
    have hxi := path_at ⟨a, b0⟩ (cutZ 32 t) (Nat.le_refl i)
    refine aw_slot (d := 0) (v := .string t) (by first | assumption | rfl) ?_
    refine aw_slot (d := 5) (v := .string (cutZ 32 t)) (by first | assumption | rfl) ?_
    refine aw_slot (d := 11) (v := .bool o1) (by first | assumption | rfl) ?_
    refine aw_slot (d := 13) (v := .bool o2) (by first | assumption | rfl) ?_
    refine aw_slot (d := 14) (v := .slice (some ⟨qb, 0, none⟩) n k) (by first | assumption | rfl) ?_
    refine aw_slot (d := 46) (v := .int .i64 (m : Nat)) (by first | assumption | rfl) ?_
    refine aw_slot (d := 47) (v := .int .i64 i) (by first | assumption | rfl) ?_
    refine aw_seq ?_
    refine aw_region ?_
    refine al_opd rfl rfl rfl (ao_lss rfl rfl) ?_
    refine al_nilT ?_
    refine aw_seq ?_
    refine aw_cond rfl (fun h1_ => ?_) (fun h1_ => ?_)
    · try simp only [nrm] at h1_
      obtain ⟨b, hb⟩ := strAt (show i < (cutZ 32 t).size by omega)
      have hlb := lt4_bnd b
      refine aw_skipT ?_
      refine aw_seq ?_
      refine aw_block ?_
      refine aw_seq ?_
      refine aw_region ?_
      refine al_opd rfl rfl rfl (ao_mv (v := .int _ _) rfl) ?_
      refine al_opd rfl rfl rfl (ao_as (v := .int _ _) rfl) ?_
      refine al_nilT ?_
      refine aw_draw (m := 11) mo (by kernel_rfl) rfl (fun _ _ _ h => h) ?_
      refine dw_opd rfl rfl rfl (ao_mv (v := .slice _ _ _) rfl) ?_
      refine dw_opd rfl rfl rfl (ao_mv (v := .slice _ _ _) rfl) ?_
      refine dw_opd rfl rfl rfl (ao_mv (v := .int _ _) rfl) ?_
      first | refine dw_opd rfl rfl rfl (ao_indexAddrS Tryd.underlying26 Tryd.sizeOf37 rfl rfl (by exact IXp) (by exact IXp)) ?_ | refine dw_opd rfl rfl rfl (ao_indexV Tryd.underlying26 Tryd.sizeOf37 rfl rfl hslo (by exact IXp) (by exact IXp)) ?_
      first | refine dw_opd rfl rfl rfl (ao_loada Tryd.isAgg37 Tryd.sizeOf37 rfl (by exact HLp) (by rfl) (by exact RFp)) ?_ | refine dw_opd rfl rfl rfl (ao_loadsV (A := #[.int _ _, .int _ _]) Tryd.isAgg37 Tryd.sizeOf37 hslo rfl hxi rfl (by decide)) ?_
      refine dw_opd rfl rfl rfl (ao_mv (v := .string _) rfl) ?_
      refine dw_opd rfl rfl rfl (ao_mv (v := .int _ _) rfl) ?_
      refine dw_opd rfl rfl rfl (ao_indexStr Tryd.underlying9 (by rfl) (by rfl) (by first | rfl | omega) (by assumption)) ?_
      refine dw_opd rfl rfl rfl (ao_calld (sIdx4_c (b := b)) Tryd.call31 rfl rfl) ?_
      refine dw_opd rfl rfl rfl (ao_calld (implNext_c (s := posTo ⟨a, b0⟩ (cutZ 32 t) i) (k := lt4 b)) Tryd.call30 rfl rfl) ?_
      refine dw_opn rfl rfl rfl (ao_lit1 (v := .agg _) Tryd.underlying26 Tryd.sizeOf37 Tryd.zeroValue37 (by rfl) (by rfl) rfl rfl (by rfl) (by exact RFp)) ?_
      refine dw_end ?_
      refine al_opd rfl rfl rfl (ao_appC Tryd.underlying26 ⟨_, Tryd.underlying26⟩ elem37 (by rfl) (by rfl) (by exact HLp) (by (rw [fl_len spot_len, ← hn]; omega)) (by exact SCp) (by first | rfl | simp [isOne]) (by exact BDp) (by exact BDp)) ?_
      refine al_opd rfl rfl rfl (ao_as (v := .slice _ _ _) rfl) ?_
      refine al_nilB ?_
      refine thenA_n ?_
      refine aw_region ?_
      first | refine al_opd rfl rfl rfl ((ao_add rfl rfl).val (nw_i64 BDp BDp)) ?_ | refine al_opd rfl rfl rfl (ao_add rfl rfl) ?_
      refine al_opd rfl rfl rfl (ao_mv (v := .int _ _) rfl) ?_
      refine al_nilT ?_
      refine ⟨_, ?_, _, rfl, i + 1, _, n + 1, _, by omega, rfl, by exact SMp, ?_, ?_, by rw [path_succ, fl_snoc, pos_succ hb]; exact (by exact HLp), by rw [path_succ, List.length_append, ← hn]; rfl, Nat.le_succ _, rfl, rfl, rfl, rfl, rfl, rfl, by rfl⟩
      · omega
      · exact LNp
      · exact LNp
    · try simp only [nrm] at h1_
      have hil : i = m := by omega
      subst hil
      subst hn
      obtain ⟨tx, htx⟩ := exists_tx (pathTo ⟨a, b0⟩ (cutZ 32 t) i)
      refine aw_exit ?_
      refine thenA_x ?_
      refine thenA_x ?_
      refine blockA_hit ?_
      refine thenA_n ?_
      refine aw_seq ?_
      refine aw_seq ?_
      refine aw_region ?_
      refine al_opd rfl rfl rfl (ao_mv (v := .bool _) rfl) ?_
      refine al_opd rfl rfl rfl (ao_not rfl) ?_
      refine al_opd rfl rfl rfl (ao_mv (v := .bool _) rfl) ?_
      refine al_cases (d := 65) rfl (fun h2_ => ?_) (fun h2_ => ?_)
      · try simp only [nrm] at h2_
        refine al_gno rfl rfl rfl rfl rfl ?_
        refine al_gno rfl rfl rfl rfl rfl ?_
        refine al_opd rfl rfl rfl (ao_pickT rfl (v := .bool _) rfl) ?_
        refine al_opd rfl rfl rfl (ao_mv (v := .bool _) rfl) ?_
        refine al_gno rfl rfl rfl rfl rfl ?_
        refine al_gno rfl rfl rfl rfl rfl ?_
        refine al_gno rfl rfl rfl rfl rfl ?_
        refine al_gno rfl rfl rfl rfl rfl ?_
        refine al_opd rfl rfl rfl (ao_pickT rfl (v := .bool _) rfl) ?_
        refine al_nilT ?_
        refine aw_condT (by rfl) ⟨_, rfl⟩ ?_
        refine aw_seq ?_
        refine aw_region ?_
        refine al_opd rfl rfl rfl (ao_as (v := .slice _ _ _) rfl) ?_
        refine al_opd rfl rfl rfl (ao_as (v := .int _ _) rfl) ?_
        refine al_nilT ?_
        refine aw_ret ?_
        refine thenA_r ?_
        refine ends2 rfl (rv_tmp (v := .slice _ _ _) rfl) (rv_tmp (v := .int _ _) rfl) ?_
        exact ⟨by first | rfl | (simp [*]; (first | done | fail)), by exact SMp⟩
      · try simp only [nrm] at h2_
        refine al_gyes rfl rfl rfl rfl rfl (ao_mv (v := .bool _) rfl) ?_
        refine al_gyes rfl rfl rfl rfl rfl (ao_not rfl) ?_
        refine al_opd rfl rfl rfl (ao_pickF rfl (v := .bool _) rfl) ?_
        refine al_opd rfl rfl rfl (ao_mv (v := .bool _) rfl) ?_
        refine al_cases (d := 69) rfl (fun h3_ => ?_) (fun h3_ => ?_)
        · try simp only [nrm] at h3_
          refine al_gno rfl rfl rfl rfl rfl ?_
          refine al_gno rfl rfl rfl rfl rfl ?_
          refine al_gno rfl rfl rfl rfl rfl ?_
          refine al_gno rfl rfl rfl rfl rfl ?_
          refine al_opd rfl rfl rfl (ao_pickT rfl (v := .bool _) rfl) ?_
          refine al_nilT ?_
          refine aw_condT (by rfl) ⟨_, rfl⟩ ?_
          refine aw_seq ?_
          refine aw_region ?_
          refine al_opd rfl rfl rfl (ao_as (v := .slice _ _ _) rfl) ?_
          refine al_opd rfl rfl rfl (ao_as (v := .int _ _) rfl) ?_
          refine al_nilT ?_
          refine aw_ret ?_
          refine thenA_r ?_
          refine ends2 rfl (rv_tmp (v := .slice _ _ _) rfl) (rv_tmp (v := .int _ _) rfl) ?_
          exact ⟨by first | rfl | (simp [*]; (first | done | fail)), by exact SMp⟩
        · try simp only [nrm] at h3_
          refine al_gyes rfl rfl rfl rfl rfl (ao_mv (v := .slice _ _ _) rfl) ?_
          refine al_gyes rfl rfl rfl rfl rfl (ao_calld (implFtX_c (l := (pathTo ⟨a, b0⟩ (cutZ 32 t) i)) (lb := qb) (c' := k) (tx := tx) (by exact HLp) hk (by rw [path_len]; omega) (path_wf ⟨⟨by show (-128 : Int) ≤ a; omega, by show a ≤ (127 : Int); omega⟩, ⟨by show (-128 : Int) ≤ b0; omega, by show b0 ≤ (127 : Int); omega⟩⟩ _ _) htx) Tryd.call8 rfl rfl) ?_
          refine al_gyes rfl rfl rfl rfl rfl (ao_mv (v := .string _) rfl) ?_
          refine al_gyes rfl rfl rfl rfl rfl (ao_sneq rfl rfl) ?_
          refine al_opd rfl rfl rfl (ao_pickF rfl (v := .bool _) rfl) ?_
          refine al_nilT ?_
          refine aw_cond rfl (fun h4_ => ?_) (fun h4_ => ?_)
          rotate_left
          · try simp only [nrm] at h4_
            exact absurd h4_ (tx_no htx hno (by have := numIs_size (by rw [← h2_]; exact hN1); omega))
          try simp only [nrm] at h4_
          refine aw_seq ?_
          refine aw_region ?_
          refine al_opd rfl rfl rfl (ao_as (v := .slice _ _ _) rfl) ?_
          refine al_opd rfl rfl rfl (ao_as (v := .int _ _) rfl) ?_
          refine al_nilT ?_
          refine aw_ret ?_
          refine thenA_r ?_
          refine ends2 rfl (rv_tmp (v := .slice _ _ _) rfl) (rv_tmp (v := .int _ _) rfl) ?_
          exact ⟨by first | rfl | (simp [*]; (first | done | fail)), by exact SMp⟩

end Go.Proofs.YtlcfmbaeaieomaaDoor
