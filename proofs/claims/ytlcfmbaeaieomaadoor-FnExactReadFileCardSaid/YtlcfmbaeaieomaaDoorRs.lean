/- Contracts of the program's functions over abstract heaps. -/
import Derived.Test.YtlcfmbaeaieomaaDoorFileW
import Derived.Test.YtlcfmbaeaieomaaDoorRm
import Derived.Test.YtlcfmbaeaieomaaDoorFu
import Derived.Test.YtlcfmbaeaieomaaDoorRn
import Derived.Test.YtlcfmbaeaieomaaDoorRo
namespace Go.Proofs.YtlcfmbaeaieomaaDoor
open Go Go.AW Go.Proofs
set_option linter.unusedVariables false
set_option linter.unusedSimpArgs false
set_option maxRecDepth 100000
set_option maxHeartbeats 2000000

-- spec.l01Split
theorem l01Split_c {t : ByteArray} {c : UInt8} {H : AHeap} (hsz : t.size ≤ 1048576) : ACd Tryd.prog 24 [.string t, .int .u8 (c.toNat : Int)] H (.slice (some ⟨H.next, 0, none⟩) (pcs c t).length ((pcs c t).length + 1)) (H.push (.cells (fl str1 (pcs c t)) 1)) := by
  refine ac_gcs (vrl_fl str1_plain _) (ac_body Tryd.func24 rfl Tryd.ntmps24 rfl ?_)
  refine aw_seq ?_
  refine aw_region ?_
  refine al_opd rfl rfl rfl (ao_as (v := .slice _ _ _) rfl) ?_
  refine al_nilT ?_
  refine aw_seq ?_
  refine aw_region ?_
  refine al_opd rfl rfl rfl (ao_lit0 Tryd.underlying50 Tryd.sizeOf9 Tryd.zeroValue9 (by rfl) (by rfl) rfl) ?_
  refine al_opd rfl rfl rfl (ao_as (v := .slice _ _ _) rfl) ?_
  refine al_nilT ?_
  refine aw_seq ?_
  refine aw_region ?_
  refine al_opd rfl rfl rfl (ao_as (v := .int _ _) rfl) ?_
  refine al_nilT ?_
  refine aw_seq ?_
  refine aw_seq ?_
  refine aw_region ?_
  refine al_opd rfl rfl rfl (ao_as (v := .int _ _) rfl) ?_
  refine al_nilT ?_
  refine aw_block ?_
  refine aw_loop (fun (gk : Nat) (fr : AFr) (G : AHeap) => ∃ get : Nat → Value, fr = ⟨35, get⟩ ∧ (∃ (i b qb n k : Nat) (out : List ByteArray), gk = t.size - i ∧ cutTo c t out b i ∧ Same H.next H G ∧ H.next ≤ qb ∧ qb < G.next ∧ G.blk qb = some (.cells (fl str1 out) 1) ∧ n = out.length ∧ n ≤ k ∧ get 0 = .string t ∧ get 1 = .int .u8 (c.toNat : Int) ∧ get 5 = .slice (some ⟨qb, 0, none⟩) n k ∧ get 6 = .int .i64 b ∧ get 7 = .int .i64 i)) (t.size) ⟨_, rfl, ?_⟩ ?_
  · refine ⟨0, 0, _, 0, _, [], rfl, cutTo_init c t, by exact SMp, ?_, ?_, by exact HLp, rfl, Nat.le_refl _, rfl, rfl, rfl, rfl, rfl⟩ <;> exact LNp
  · rintro gk fr G ⟨get, rfl, i, b, qb, n, k, out, rfl, hct, hG, hqb, hlt, hkb, hn, hk, g0, g1, g5, g6, g7⟩
    have ⟨hc1, hc2, _, _⟩ := hct
    have hol := cutTo_len hct
    refine aw_slot (d := 0) (v := .string t) (by first | assumption | rfl) ?_
    refine aw_slot (d := 1) (v := .int .u8 (c.toNat : Int)) (by first | assumption | rfl) ?_
    refine aw_slot (d := 5) (v := .slice (some ⟨qb, 0, none⟩) n k) (by first | assumption | rfl) ?_
    refine aw_slot (d := 6) (v := .int .i64 b) (by first | assumption | rfl) ?_
    refine aw_slot (d := 7) (v := .int .i64 i) (by first | assumption | rfl) ?_
    refine aw_seq ?_
    refine aw_seq ?_
    refine aw_region ?_
    refine al_opd rfl rfl rfl (ao_mv (v := .int _ _) rfl) ?_
    refine al_opd rfl rfl rfl (ao_mv (v := .string _) rfl) ?_
    refine al_opd rfl rfl rfl (ao_lenStr Tryd.underlying9 (by rfl)) ?_
    refine al_opd rfl rfl rfl (ao_lss rfl rfl) ?_
    refine al_nilT ?_
    refine aw_cond rfl (fun h1_ => ?_) (fun h1_ => ?_)
    · try simp only [nrm] at h1_
      obtain ⟨d, hd⟩ := strAt (show i < t.size by omega)
      refine aw_skipT ?_
      refine aw_seq ?_
      refine aw_block ?_
      refine aw_seq ?_
      refine aw_region ?_
      refine al_opd rfl rfl rfl (ao_mv (v := .string _) rfl) ?_
      refine al_opd rfl rfl rfl (ao_mv (v := .int _ _) rfl) ?_
      refine al_opd rfl rfl rfl (ao_indexStr Tryd.underlying9 (by rfl) (by rfl) (by first | rfl | omega) (by assumption)) ?_
      refine al_opd rfl rfl rfl (ao_mv (v := .int _ _) rfl) ?_
      refine al_opd rfl rfl rfl (ao_eql rfl rfl) ?_
      refine al_nilT ?_
      refine aw_cond rfl (fun h2_ => ?_) (fun h2_ => ?_)
      · try simp only [nrm] at h2_
        refine aw_seq ?_
        refine aw_region ?_
        refine al_opd rfl rfl rfl (ao_mv (v := .slice _ _ _) rfl) ?_
        refine al_opd rfl rfl rfl (ao_mv (v := .string _) rfl) ?_
        refine al_opd rfl rfl rfl (ao_mv (v := .int _ _) rfl) ?_
        refine al_opd rfl rfl rfl (ao_mv (v := .int _ _) rfl) ?_
        refine al_opd rfl rfl rfl (ao_sliceStr2 Tryd.underlying9 (by rfl) (by rfl) (by rfl) (by first | rfl | omega) (by first | rfl | omega) (by exact IXp) (by exact IXp)) ?_
        refine al_opd rfl rfl rfl (ao_lit1 (v := .string _) Tryd.underlying50 Tryd.sizeOf9 Tryd.zeroValue9 (by rfl) (by rfl) rfl rfl (by rfl) (by exact RFp)) ?_
        refine al_opd rfl rfl rfl (ao_appC Tryd.underlying50 ⟨_, Tryd.underlying50⟩ elem9 (by rfl) (by rfl) (by exact HLp) (by (rw [fl_len str1_len, ← hn]; omega)) (by exact SCp) (by first | rfl | simp [isOne]) (by exact BDp) (by exact BDp)) ?_
        refine al_opd rfl rfl rfl (ao_as (v := .slice _ _ _) rfl) ?_
        refine al_nilT ?_
        refine aw_region ?_
        refine al_opd rfl rfl rfl (ao_mv (v := .int _ _) rfl) ?_
        first | refine al_opd rfl rfl rfl ((ao_add rfl rfl).val (nw_i64 BDp BDp)) ?_ | refine al_opd rfl rfl rfl (ao_add rfl rfl) ?_
        refine al_opd rfl rfl rfl (ao_as (v := .int _ _) rfl) ?_
        refine al_nilB ?_
        refine thenA_n ?_
        refine aw_region ?_
        refine al_opd rfl rfl rfl (ao_mv (v := .int _ _) rfl) ?_
        first | refine al_opd rfl rfl rfl ((ao_add rfl rfl).val (nw_i64 BDp BDp)) ?_ | refine al_opd rfl rfl rfl (ao_add rfl rfl) ?_
        refine al_opd rfl rfl rfl (ao_as (v := .int _ _) rfl) ?_
        refine al_nilT ?_
        obtain rfl := u8_eq.mp h2_
        refine ⟨_, ?_, _, rfl, i + 1, i + 1, _, n + 1, _, _, rfl, cutTo_hit hct hd, by exact SMp, ?_, ?_, by rw [fl_snoc]; exact (by exact HLp), by rw [List.length_append, ← hn]; rfl, Nat.le_succ _, rfl, rfl, rfl, by rfl, by rfl⟩
        · omega
        · exact LNp
        · exact LNp
      · try simp only [nrm] at h2_
        refine aw_skipB ?_
        refine thenA_n ?_
        refine aw_region ?_
        refine al_opd rfl rfl rfl (ao_mv (v := .int _ _) rfl) ?_
        first | refine al_opd rfl rfl rfl ((ao_add rfl rfl).val (nw_i64 BDp BDp)) ?_ | refine al_opd rfl rfl rfl (ao_add rfl rfl) ?_
        refine al_opd rfl rfl rfl (ao_as (v := .int _ _) rfl) ?_
        refine al_nilT ?_
        exact ⟨_, by omega, _, rfl, i + 1, b, qb, n, k, out, rfl, cutTo_miss hct hd (fun e => h2_ (u8_eq.mpr e)), by exact SMp, hqb, by first | omega | (simp only [next_push, next_set, next_kill]; omega), by exact HLp, hn, hk, rfl, rfl, rfl, rfl, by rfl⟩
    · try simp only [nrm] at h1_
      obtain rfl : i = t.size := by omega
      refine aw_exit ?_
      refine thenA_x ?_
      refine thenA_x ?_
      refine blockA_hit ?_
      refine thenA_n ?_
      refine aw_seq ?_
      refine aw_region ?_
      refine al_opd rfl rfl rfl (ao_mv (v := .slice _ _ _) rfl) ?_
      refine al_opd rfl rfl rfl (ao_mv (v := .string _) rfl) ?_
      refine al_opd rfl rfl rfl (ao_mv (v := .int _ _) rfl) ?_
      refine al_opd rfl rfl rfl (ao_sliceStrLo Tryd.underlying9 (by rfl) (by rfl) (by first | rfl | omega) (by exact IXp)) ?_
      refine al_opd rfl rfl rfl (ao_lit1 (v := .string _) Tryd.underlying50 Tryd.sizeOf9 Tryd.zeroValue9 (by rfl) (by rfl) rfl rfl (by rfl) (by exact RFp)) ?_
      refine al_opd rfl rfl rfl (ao_appC Tryd.underlying50 ⟨_, Tryd.underlying50⟩ elem9 (by rfl) (by rfl) (by exact HLp) (by (rw [fl_len str1_len, ← hn]; omega)) (by exact SCp) (by first | rfl | simp [isOne]) (by exact BDp) (by exact BDp)) ?_
      refine al_opd rfl rfl rfl (ao_as (v := .slice _ _ _) rfl) ?_
      refine al_nilT ?_
      refine aw_ret ?_
      refine ends1 rfl (rv_tmp (v := .slice _ _ _) rfl) ?_
      have he := cutTo_end hct
      have hle : (pcs c t).length = n + 1 := by rw [← he, List.length_append, ← hn]; rfl
      rw [hle, ← he, fl_snoc]
      exact ⟨by exact SMp, _, by exact LEp, by exact HLp, fun ρ h => vr_sl h (by omega) (by omega)⟩

theorem l01NumX_c {s : ByteArray} {x : Int} {b : Bool} {H : AHeap} (h : num2 s x b) : ACd Tryd.prog 25 [.string s] H (.tuple #[.int .i64 x, .bool b]) H := by
  rcases h with ⟨rfl, h, rfl⟩ | ⟨rfl, h, rfl⟩
  · exact l01Num_c (yes h)
  · exact l01Num_c (no h)

-- spec.ReadFile
theorem specRf12_c {t : ByteArray} {l : List Spot} {H : AHeap} (hsz : t.size ≤ 1048576) (hv : plainF l) (hq : fileTx l = t) (hl : 2 ≤ l.length) : ACd Tryd.prog 10 [.string t] H (.tuple #[.slice (some ⟨H.next, 0, none⟩) l.length (l.length + 1), .int .i64 0]) (H.push (.cells (fl spot l) 2)) := by
  obtain ⟨hPl, _, hP0, hP1⟩ := (file_words hv hq).resolve_left (fun q => by have := q.2.1; omega)
  obtain ⟨w, hw0⟩ : ∃ w, w = ofL (ls8 l) := ⟨_, rfl⟩
  rw [← hw0] at hP1
  have hwd : w.data.toList = ls8 l := by rw [hw0]; rfl
  have hwl : w.size = l.length - 1 := by rw [ba_size, hwd, ls8_len]
  have hpath := path_back hv hwd
  have hv2 := hv.1.2.2
  have hv1 := hv.1.2.1
  have hQ := hd_pcs (at_inB hv)
  obtain ⟨p0, hp0⟩ : ∃ p0, p0 = ofL (hd8 l) := ⟨_, rfl⟩
  rw [← hp0] at hQ hP0
  obtain ⟨px, hpx⟩ : ∃ px, px = strOf [48 + (at_ l 0).x] := ⟨_, rfl⟩
  obtain ⟨py, hpy⟩ : ∃ py, py = strOf [48 + (at_ l 0).y] := ⟨_, rfl⟩
  rw [← hpx, ← hpy] at hQ
  have ⟨hQl, hQ0, hQ1⟩ := str2_at hQ
  have ⟨⟨x0, x9⟩, ⟨y0, y9⟩⟩ := at_inB hv
  have hN1 : num2 px (at_ l 0).x true := by rw [hpx]; exact num2_of x0 x9
  have hN2 : num2 py (at_ l 0).y true := by rw [hpy]; exact num2_of y0 y9
  have hs0 := pcs_size 32 t hP0
  have hPs := pcs_len 32 t
  have hQs := pcs_len 44 p0
  have hs1 := pcs_size 32 t hP1
  refine ac_gcs (vrl_fl spot_plain _) (ac_body Tryd.func10 rfl Tryd.ntmps10 rfl ?_)
  refine aw_seq ?_
  refine aw_region ?_
  refine al_opd rfl rfl rfl (ao_as (v := .slice _ _ _) rfl) ?_
  refine al_opd rfl rfl rfl (ao_as (v := .int _ _) rfl) ?_
  refine al_nilT ?_
  refine aw_seq ?_
  refine aw_region ?_
  refine al_opd rfl rfl rfl (ao_mv (v := .string _) rfl) ?_
  refine al_opd rfl rfl rfl (ao_calld (l01Split_c (t := t) (c := 32) (by omega)) Tryd.call24 rfl rfl) ?_
  have hsl0 : Sl (H.push (.cells (fl str1 (pcs 32 t)) 1)) str1 1 (.slice (some ⟨H.next, 0, none⟩) (pcs 32 t).length ((pcs 32 t).length + 1)) (pcs 32 t) := Sl.full str1_len (by exact HLp) rfl rfl rfl
  refine al_opd rfl rfl rfl (ao_as (v := .slice _ _ _) rfl) ?_
  refine al_nilT ?_
  refine aw_seq ?_
  refine aw_region ?_
  refine al_opd rfl rfl rfl (ao_mv (v := .slice _ _ _) rfl) ?_
  first | refine al_opd rfl rfl rfl (ao_indexAddrS Tryd.underlying50 Tryd.sizeOf9 rfl rfl (by exact IXp) (by exact IXp)) ?_ | refine al_opd rfl rfl rfl (ao_indexV Tryd.underlying50 Tryd.sizeOf9 rfl rfl hsl0 (by exact IXp) (by exact IXp)) ?_ | refine al_opd rfl rfl rfl (ao_indexV Tryd.underlying50 Tryd.sizeOf9 rfl rfl hsl1 (by exact IXp) (by exact IXp)) ?_ | refine al_opd rfl rfl rfl (ao_indexV Tryd.underlying50 Tryd.sizeOf9 rfl rfl hslq (by exact IXp) (by exact IXp)) ?_ | refine al_opd rfl rfl rfl (ao_indexV Tryd.underlying50 Tryd.sizeOf9 rfl rfl hslp (by exact IXp) (by exact IXp)) ?_ | refine al_opd rfl rfl rfl (ao_indexV Tryd.underlying50 Tryd.sizeOf9 rfl rfl hslo (by exact IXp) (by exact IXp)) ?_
  first | refine al_opd rfl rfl rfl (ao_load (v := .string _) Tryd.isAgg9 (by rfl) (by exact HLp) (by rfl) (by exact RFp)) ?_ | refine al_opd rfl rfl rfl (ao_loadV (j := 0) (u := .string _) Tryd.isAgg9 hsl0 rfl rfl hP0 rfl) ?_ | refine al_opd rfl rfl rfl (ao_loadV (j := 1) (u := .string _) Tryd.isAgg9 hsl0 rfl rfl hP0 rfl) ?_ | refine al_opd rfl rfl rfl (ao_loadV (j := 0) (u := .string _) Tryd.isAgg9 hsl0 rfl rfl hP1 rfl) ?_ | refine al_opd rfl rfl rfl (ao_loadV (j := 1) (u := .string _) Tryd.isAgg9 hsl0 rfl rfl hP1 rfl) ?_ | refine al_opd rfl rfl rfl (ao_loadV (j := 0) (u := .string _) Tryd.isAgg9 hsl0 rfl rfl hQ0 rfl) ?_ | refine al_opd rfl rfl rfl (ao_loadV (j := 1) (u := .string _) Tryd.isAgg9 hsl0 rfl rfl hQ0 rfl) ?_ | refine al_opd rfl rfl rfl (ao_loadV (j := 0) (u := .string _) Tryd.isAgg9 hsl0 rfl rfl hQ1 rfl) ?_ | refine al_opd rfl rfl rfl (ao_loadV (j := 1) (u := .string _) Tryd.isAgg9 hsl0 rfl rfl hQ1 rfl) ?_ | refine al_opd rfl rfl rfl (ao_loadV (j := 0) (u := .string _) Tryd.isAgg9 hsl0 rfl rfl hxi rfl) ?_ | refine al_opd rfl rfl rfl (ao_loadV (j := 1) (u := .string _) Tryd.isAgg9 hsl0 rfl rfl hxi rfl) ?_ | refine al_opd rfl rfl rfl (ao_loadV (j := 0) (u := .string _) Tryd.isAgg9 hsl1 rfl rfl hP0 rfl) ?_ | refine al_opd rfl rfl rfl (ao_loadV (j := 1) (u := .string _) Tryd.isAgg9 hsl1 rfl rfl hP0 rfl) ?_ | refine al_opd rfl rfl rfl (ao_loadV (j := 0) (u := .string _) Tryd.isAgg9 hsl1 rfl rfl hP1 rfl) ?_ | refine al_opd rfl rfl rfl (ao_loadV (j := 1) (u := .string _) Tryd.isAgg9 hsl1 rfl rfl hP1 rfl) ?_ | refine al_opd rfl rfl rfl (ao_loadV (j := 0) (u := .string _) Tryd.isAgg9 hsl1 rfl rfl hQ0 rfl) ?_ | refine al_opd rfl rfl rfl (ao_loadV (j := 1) (u := .string _) Tryd.isAgg9 hsl1 rfl rfl hQ0 rfl) ?_ | refine al_opd rfl rfl rfl (ao_loadV (j := 0) (u := .string _) Tryd.isAgg9 hsl1 rfl rfl hQ1 rfl) ?_ | refine al_opd rfl rfl rfl (ao_loadV (j := 1) (u := .string _) Tryd.isAgg9 hsl1 rfl rfl hQ1 rfl) ?_ | refine al_opd rfl rfl rfl (ao_loadV (j := 0) (u := .string _) Tryd.isAgg9 hsl1 rfl rfl hxi rfl) ?_ | refine al_opd rfl rfl rfl (ao_loadV (j := 1) (u := .string _) Tryd.isAgg9 hsl1 rfl rfl hxi rfl) ?_ | refine al_opd rfl rfl rfl (ao_loadV (j := 0) (u := .string _) Tryd.isAgg9 hslq rfl rfl hP0 rfl) ?_ | refine al_opd rfl rfl rfl (ao_loadV (j := 1) (u := .string _) Tryd.isAgg9 hslq rfl rfl hP0 rfl) ?_ | refine al_opd rfl rfl rfl (ao_loadV (j := 0) (u := .string _) Tryd.isAgg9 hslq rfl rfl hP1 rfl) ?_ | refine al_opd rfl rfl rfl (ao_loadV (j := 1) (u := .string _) Tryd.isAgg9 hslq rfl rfl hP1 rfl) ?_ | refine al_opd rfl rfl rfl (ao_loadV (j := 0) (u := .string _) Tryd.isAgg9 hslq rfl rfl hQ0 rfl) ?_ | refine al_opd rfl rfl rfl (ao_loadV (j := 1) (u := .string _) Tryd.isAgg9 hslq rfl rfl hQ0 rfl) ?_ | refine al_opd rfl rfl rfl (ao_loadV (j := 0) (u := .string _) Tryd.isAgg9 hslq rfl rfl hQ1 rfl) ?_ | refine al_opd rfl rfl rfl (ao_loadV (j := 1) (u := .string _) Tryd.isAgg9 hslq rfl rfl hQ1 rfl) ?_ | refine al_opd rfl rfl rfl (ao_loadV (j := 0) (u := .string _) Tryd.isAgg9 hslq rfl rfl hxi rfl) ?_ | refine al_opd rfl rfl rfl (ao_loadV (j := 1) (u := .string _) Tryd.isAgg9 hslq rfl rfl hxi rfl) ?_ | refine al_opd rfl rfl rfl (ao_loadV (j := 0) (u := .string _) Tryd.isAgg9 hslp rfl rfl hP0 rfl) ?_ | refine al_opd rfl rfl rfl (ao_loadV (j := 1) (u := .string _) Tryd.isAgg9 hslp rfl rfl hP0 rfl) ?_ | refine al_opd rfl rfl rfl (ao_loadV (j := 0) (u := .string _) Tryd.isAgg9 hslp rfl rfl hP1 rfl) ?_ | refine al_opd rfl rfl rfl (ao_loadV (j := 1) (u := .string _) Tryd.isAgg9 hslp rfl rfl hP1 rfl) ?_ | refine al_opd rfl rfl rfl (ao_loadV (j := 0) (u := .string _) Tryd.isAgg9 hslp rfl rfl hQ0 rfl) ?_ | refine al_opd rfl rfl rfl (ao_loadV (j := 1) (u := .string _) Tryd.isAgg9 hslp rfl rfl hQ0 rfl) ?_ | refine al_opd rfl rfl rfl (ao_loadV (j := 0) (u := .string _) Tryd.isAgg9 hslp rfl rfl hQ1 rfl) ?_ | refine al_opd rfl rfl rfl (ao_loadV (j := 1) (u := .string _) Tryd.isAgg9 hslp rfl rfl hQ1 rfl) ?_ | refine al_opd rfl rfl rfl (ao_loadV (j := 0) (u := .string _) Tryd.isAgg9 hslp rfl rfl hxi rfl) ?_ | refine al_opd rfl rfl rfl (ao_loadV (j := 1) (u := .string _) Tryd.isAgg9 hslp rfl rfl hxi rfl) ?_ | refine al_opd rfl rfl rfl (ao_loadV (j := 0) (u := .string _) Tryd.isAgg9 hslo rfl rfl hP0 rfl) ?_ | refine al_opd rfl rfl rfl (ao_loadV (j := 1) (u := .string _) Tryd.isAgg9 hslo rfl rfl hP0 rfl) ?_ | refine al_opd rfl rfl rfl (ao_loadV (j := 0) (u := .string _) Tryd.isAgg9 hslo rfl rfl hP1 rfl) ?_ | refine al_opd rfl rfl rfl (ao_loadV (j := 1) (u := .string _) Tryd.isAgg9 hslo rfl rfl hP1 rfl) ?_ | refine al_opd rfl rfl rfl (ao_loadV (j := 0) (u := .string _) Tryd.isAgg9 hslo rfl rfl hQ0 rfl) ?_ | refine al_opd rfl rfl rfl (ao_loadV (j := 1) (u := .string _) Tryd.isAgg9 hslo rfl rfl hQ0 rfl) ?_ | refine al_opd rfl rfl rfl (ao_loadV (j := 0) (u := .string _) Tryd.isAgg9 hslo rfl rfl hQ1 rfl) ?_ | refine al_opd rfl rfl rfl (ao_loadV (j := 1) (u := .string _) Tryd.isAgg9 hslo rfl rfl hQ1 rfl) ?_ | refine al_opd rfl rfl rfl (ao_loadV (j := 0) (u := .string _) Tryd.isAgg9 hslo rfl rfl hxi rfl) ?_ | refine al_opd rfl rfl rfl (ao_loadV (j := 1) (u := .string _) Tryd.isAgg9 hslo rfl rfl hxi rfl) ?_
  refine al_opd rfl rfl rfl (ao_calld (l01Split_c (t := p0) (c := 44) (by omega)) Tryd.call24 rfl rfl) ?_
  have hsl1 : Sl ((H.push (.cells (fl str1 (pcs 32 t)) 1)).push (.cells (fl str1 (pcs 44 p0)) 1)) str1 1 (.slice (some ⟨H.next, 0, none⟩) (pcs 32 t).length ((pcs 32 t).length + 1)) (pcs 32 t) := Sl.full str1_len (by exact HLp) rfl rfl rfl
  have hslq : Sl ((H.push (.cells (fl str1 (pcs 32 t)) 1)).push (.cells (fl str1 (pcs 44 p0)) 1)) str1 1 (.slice (some ⟨H.next + 1, 0, none⟩) (pcs 44 p0).length ((pcs 44 p0).length + 1)) (pcs 44 p0) := Sl.full str1_len (by exact HLp) rfl rfl rfl
  refine al_opd rfl rfl rfl (ao_as (v := .slice _ _ _) rfl) ?_
  refine al_nilT ?_
  refine aw_seq ?_
  refine aw_seq ?_
  refine aw_region ?_
  refine al_opd rfl rfl rfl (ao_mv (v := .slice _ _ _) rfl) ?_
  first | refine al_opd rfl rfl rfl (ao_lenS Tryd.underlying50 (by rfl)) ?_ | refine al_opd rfl rfl rfl (ao_lenN Tryd.underlying50 (by rfl)) ?_ | refine al_opd rfl rfl rfl (ao_lenV Tryd.underlying50 rfl hsl0) ?_ | refine al_opd rfl rfl rfl (ao_lenV Tryd.underlying50 rfl hsl1) ?_ | refine al_opd rfl rfl rfl (ao_lenV Tryd.underlying50 rfl hslq) ?_ | refine al_opd rfl rfl rfl (ao_lenV Tryd.underlying50 rfl hslp) ?_ | refine al_opd rfl rfl rfl (ao_lenV Tryd.underlying50 rfl hslo) ?_
  refine al_opd rfl rfl rfl (ao_gtr rfl rfl) ?_
  refine al_opd rfl rfl rfl (ao_mv (v := .bool _) rfl) ?_
  refine al_cases (d := 22) rfl (fun h1_ => ?_) (fun h1_ => ?_)
  · try simp only [nrm] at h1_
    first | done | omega | (exfalso; revert h1_; simp; (first | done | omega))
  try simp only [nrm] at h1_
  refine al_gyes rfl rfl rfl rfl rfl (ao_mv (v := .slice _ _ _) rfl) ?_
  first | refine al_gyes rfl rfl rfl rfl rfl (ao_lenS Tryd.underlying50 (by rfl)) ?_ | refine al_gyes rfl rfl rfl rfl rfl (ao_lenN Tryd.underlying50 (by rfl)) ?_ | refine al_gyes rfl rfl rfl rfl rfl (ao_lenV Tryd.underlying50 rfl hsl0) ?_ | refine al_gyes rfl rfl rfl rfl rfl (ao_lenV Tryd.underlying50 rfl hsl1) ?_ | refine al_gyes rfl rfl rfl rfl rfl (ao_lenV Tryd.underlying50 rfl hslq) ?_ | refine al_gyes rfl rfl rfl rfl rfl (ao_lenV Tryd.underlying50 rfl hslp) ?_ | refine al_gyes rfl rfl rfl rfl rfl (ao_lenV Tryd.underlying50 rfl hslo) ?_
  refine al_gyes rfl rfl rfl rfl rfl (ao_neq rfl rfl) ?_
  refine al_opd rfl rfl rfl (ao_pickF rfl (v := .bool _) rfl) ?_
  refine al_opd rfl rfl rfl (ao_mv (v := .bool _) rfl) ?_
  refine al_cases (d := 27) rfl (fun h2_ => ?_) (fun h2_ => ?_)
  · try simp only [nrm] at h2_
    first | done | omega | (exfalso; revert h2_; simp; (first | done | omega))
  try simp only [nrm] at h2_
  refine al_gyes rfl rfl rfl rfl rfl (ao_mv (v := .slice _ _ _) rfl) ?_
  first | refine al_gyes rfl rfl rfl rfl rfl (ao_lenS Tryd.underlying50 (by rfl)) ?_ | refine al_gyes rfl rfl rfl rfl rfl (ao_lenN Tryd.underlying50 (by rfl)) ?_ | refine al_gyes rfl rfl rfl rfl rfl (ao_lenV Tryd.underlying50 rfl hsl0) ?_ | refine al_gyes rfl rfl rfl rfl rfl (ao_lenV Tryd.underlying50 rfl hsl1) ?_ | refine al_gyes rfl rfl rfl rfl rfl (ao_lenV Tryd.underlying50 rfl hslq) ?_ | refine al_gyes rfl rfl rfl rfl rfl (ao_lenV Tryd.underlying50 rfl hslp) ?_ | refine al_gyes rfl rfl rfl rfl rfl (ao_lenV Tryd.underlying50 rfl hslo) ?_
  refine al_gyes rfl rfl rfl rfl rfl (ao_eql rfl rfl) ?_
  refine al_gyes rfl rfl rfl rfl rfl (ao_mv (v := .bool _) rfl) ?_
  refine al_cases (d := 31) rfl (fun h3_ => ?_) (fun h3_ => ?_)
  rotate_left
  · try simp only [nrm] at h3_
    first | done | omega | (exfalso; revert h3_; simp; (first | done | omega))
  try simp only [nrm] at h3_
  refine al_gyes rfl rfl rfl rfl rfl (ao_mv (v := .slice _ _ _) rfl) ?_
  first | refine al_gyes rfl rfl rfl rfl rfl (ao_indexAddrS Tryd.underlying50 Tryd.sizeOf9 rfl rfl (by exact IXp) (by exact IXp)) ?_ | refine al_gyes rfl rfl rfl rfl rfl (ao_indexV Tryd.underlying50 Tryd.sizeOf9 rfl rfl hsl0 (by exact IXp) (by exact IXp)) ?_ | refine al_gyes rfl rfl rfl rfl rfl (ao_indexV Tryd.underlying50 Tryd.sizeOf9 rfl rfl hsl1 (by exact IXp) (by exact IXp)) ?_ | refine al_gyes rfl rfl rfl rfl rfl (ao_indexV Tryd.underlying50 Tryd.sizeOf9 rfl rfl hslq (by exact IXp) (by exact IXp)) ?_ | refine al_gyes rfl rfl rfl rfl rfl (ao_indexV Tryd.underlying50 Tryd.sizeOf9 rfl rfl hslp (by exact IXp) (by exact IXp)) ?_ | refine al_gyes rfl rfl rfl rfl rfl (ao_indexV Tryd.underlying50 Tryd.sizeOf9 rfl rfl hslo (by exact IXp) (by exact IXp)) ?_
  first | refine al_gyes rfl rfl rfl rfl rfl (ao_load (v := .string _) Tryd.isAgg9 (by rfl) (by exact HLp) (by rfl) (by exact RFp)) ?_ | refine al_gyes rfl rfl rfl rfl rfl (ao_loadV (j := 0) (u := .string _) Tryd.isAgg9 hsl0 rfl rfl hP0 rfl) ?_ | refine al_gyes rfl rfl rfl rfl rfl (ao_loadV (j := 1) (u := .string _) Tryd.isAgg9 hsl0 rfl rfl hP0 rfl) ?_ | refine al_gyes rfl rfl rfl rfl rfl (ao_loadV (j := 0) (u := .string _) Tryd.isAgg9 hsl0 rfl rfl hP1 rfl) ?_ | refine al_gyes rfl rfl rfl rfl rfl (ao_loadV (j := 1) (u := .string _) Tryd.isAgg9 hsl0 rfl rfl hP1 rfl) ?_ | refine al_gyes rfl rfl rfl rfl rfl (ao_loadV (j := 0) (u := .string _) Tryd.isAgg9 hsl0 rfl rfl hQ0 rfl) ?_ | refine al_gyes rfl rfl rfl rfl rfl (ao_loadV (j := 1) (u := .string _) Tryd.isAgg9 hsl0 rfl rfl hQ0 rfl) ?_ | refine al_gyes rfl rfl rfl rfl rfl (ao_loadV (j := 0) (u := .string _) Tryd.isAgg9 hsl0 rfl rfl hQ1 rfl) ?_ | refine al_gyes rfl rfl rfl rfl rfl (ao_loadV (j := 1) (u := .string _) Tryd.isAgg9 hsl0 rfl rfl hQ1 rfl) ?_ | refine al_gyes rfl rfl rfl rfl rfl (ao_loadV (j := 0) (u := .string _) Tryd.isAgg9 hsl0 rfl rfl hxi rfl) ?_ | refine al_gyes rfl rfl rfl rfl rfl (ao_loadV (j := 1) (u := .string _) Tryd.isAgg9 hsl0 rfl rfl hxi rfl) ?_ | refine al_gyes rfl rfl rfl rfl rfl (ao_loadV (j := 0) (u := .string _) Tryd.isAgg9 hsl1 rfl rfl hP0 rfl) ?_ | refine al_gyes rfl rfl rfl rfl rfl (ao_loadV (j := 1) (u := .string _) Tryd.isAgg9 hsl1 rfl rfl hP0 rfl) ?_ | refine al_gyes rfl rfl rfl rfl rfl (ao_loadV (j := 0) (u := .string _) Tryd.isAgg9 hsl1 rfl rfl hP1 rfl) ?_ | refine al_gyes rfl rfl rfl rfl rfl (ao_loadV (j := 1) (u := .string _) Tryd.isAgg9 hsl1 rfl rfl hP1 rfl) ?_ | refine al_gyes rfl rfl rfl rfl rfl (ao_loadV (j := 0) (u := .string _) Tryd.isAgg9 hsl1 rfl rfl hQ0 rfl) ?_ | refine al_gyes rfl rfl rfl rfl rfl (ao_loadV (j := 1) (u := .string _) Tryd.isAgg9 hsl1 rfl rfl hQ0 rfl) ?_ | refine al_gyes rfl rfl rfl rfl rfl (ao_loadV (j := 0) (u := .string _) Tryd.isAgg9 hsl1 rfl rfl hQ1 rfl) ?_ | refine al_gyes rfl rfl rfl rfl rfl (ao_loadV (j := 1) (u := .string _) Tryd.isAgg9 hsl1 rfl rfl hQ1 rfl) ?_ | refine al_gyes rfl rfl rfl rfl rfl (ao_loadV (j := 0) (u := .string _) Tryd.isAgg9 hsl1 rfl rfl hxi rfl) ?_ | refine al_gyes rfl rfl rfl rfl rfl (ao_loadV (j := 1) (u := .string _) Tryd.isAgg9 hsl1 rfl rfl hxi rfl) ?_ | refine al_gyes rfl rfl rfl rfl rfl (ao_loadV (j := 0) (u := .string _) Tryd.isAgg9 hslq rfl rfl hP0 rfl) ?_ | refine al_gyes rfl rfl rfl rfl rfl (ao_loadV (j := 1) (u := .string _) Tryd.isAgg9 hslq rfl rfl hP0 rfl) ?_ | refine al_gyes rfl rfl rfl rfl rfl (ao_loadV (j := 0) (u := .string _) Tryd.isAgg9 hslq rfl rfl hP1 rfl) ?_ | refine al_gyes rfl rfl rfl rfl rfl (ao_loadV (j := 1) (u := .string _) Tryd.isAgg9 hslq rfl rfl hP1 rfl) ?_ | refine al_gyes rfl rfl rfl rfl rfl (ao_loadV (j := 0) (u := .string _) Tryd.isAgg9 hslq rfl rfl hQ0 rfl) ?_ | refine al_gyes rfl rfl rfl rfl rfl (ao_loadV (j := 1) (u := .string _) Tryd.isAgg9 hslq rfl rfl hQ0 rfl) ?_ | refine al_gyes rfl rfl rfl rfl rfl (ao_loadV (j := 0) (u := .string _) Tryd.isAgg9 hslq rfl rfl hQ1 rfl) ?_ | refine al_gyes rfl rfl rfl rfl rfl (ao_loadV (j := 1) (u := .string _) Tryd.isAgg9 hslq rfl rfl hQ1 rfl) ?_ | refine al_gyes rfl rfl rfl rfl rfl (ao_loadV (j := 0) (u := .string _) Tryd.isAgg9 hslq rfl rfl hxi rfl) ?_ | refine al_gyes rfl rfl rfl rfl rfl (ao_loadV (j := 1) (u := .string _) Tryd.isAgg9 hslq rfl rfl hxi rfl) ?_ | refine al_gyes rfl rfl rfl rfl rfl (ao_loadV (j := 0) (u := .string _) Tryd.isAgg9 hslp rfl rfl hP0 rfl) ?_ | refine al_gyes rfl rfl rfl rfl rfl (ao_loadV (j := 1) (u := .string _) Tryd.isAgg9 hslp rfl rfl hP0 rfl) ?_ | refine al_gyes rfl rfl rfl rfl rfl (ao_loadV (j := 0) (u := .string _) Tryd.isAgg9 hslp rfl rfl hP1 rfl) ?_ | refine al_gyes rfl rfl rfl rfl rfl (ao_loadV (j := 1) (u := .string _) Tryd.isAgg9 hslp rfl rfl hP1 rfl) ?_ | refine al_gyes rfl rfl rfl rfl rfl (ao_loadV (j := 0) (u := .string _) Tryd.isAgg9 hslp rfl rfl hQ0 rfl) ?_ | refine al_gyes rfl rfl rfl rfl rfl (ao_loadV (j := 1) (u := .string _) Tryd.isAgg9 hslp rfl rfl hQ0 rfl) ?_ | refine al_gyes rfl rfl rfl rfl rfl (ao_loadV (j := 0) (u := .string _) Tryd.isAgg9 hslp rfl rfl hQ1 rfl) ?_ | refine al_gyes rfl rfl rfl rfl rfl (ao_loadV (j := 1) (u := .string _) Tryd.isAgg9 hslp rfl rfl hQ1 rfl) ?_ | refine al_gyes rfl rfl rfl rfl rfl (ao_loadV (j := 0) (u := .string _) Tryd.isAgg9 hslp rfl rfl hxi rfl) ?_ | refine al_gyes rfl rfl rfl rfl rfl (ao_loadV (j := 1) (u := .string _) Tryd.isAgg9 hslp rfl rfl hxi rfl) ?_ | refine al_gyes rfl rfl rfl rfl rfl (ao_loadV (j := 0) (u := .string _) Tryd.isAgg9 hslo rfl rfl hP0 rfl) ?_ | refine al_gyes rfl rfl rfl rfl rfl (ao_loadV (j := 1) (u := .string _) Tryd.isAgg9 hslo rfl rfl hP0 rfl) ?_ | refine al_gyes rfl rfl rfl rfl rfl (ao_loadV (j := 0) (u := .string _) Tryd.isAgg9 hslo rfl rfl hP1 rfl) ?_ | refine al_gyes rfl rfl rfl rfl rfl (ao_loadV (j := 1) (u := .string _) Tryd.isAgg9 hslo rfl rfl hP1 rfl) ?_ | refine al_gyes rfl rfl rfl rfl rfl (ao_loadV (j := 0) (u := .string _) Tryd.isAgg9 hslo rfl rfl hQ0 rfl) ?_ | refine al_gyes rfl rfl rfl rfl rfl (ao_loadV (j := 1) (u := .string _) Tryd.isAgg9 hslo rfl rfl hQ0 rfl) ?_ | refine al_gyes rfl rfl rfl rfl rfl (ao_loadV (j := 0) (u := .string _) Tryd.isAgg9 hslo rfl rfl hQ1 rfl) ?_ | refine al_gyes rfl rfl rfl rfl rfl (ao_loadV (j := 1) (u := .string _) Tryd.isAgg9 hslo rfl rfl hQ1 rfl) ?_ | refine al_gyes rfl rfl rfl rfl rfl (ao_loadV (j := 0) (u := .string _) Tryd.isAgg9 hslo rfl rfl hxi rfl) ?_ | refine al_gyes rfl rfl rfl rfl rfl (ao_loadV (j := 1) (u := .string _) Tryd.isAgg9 hslo rfl rfl hxi rfl) ?_
  refine al_gyes rfl rfl rfl rfl rfl (ao_seql rfl rfl) ?_
  refine al_gyes rfl rfl rfl rfl rfl (ao_pickT rfl (v := .bool _) rfl) ?_
  refine al_opd rfl rfl rfl (ao_pickF rfl (v := .bool _) rfl) ?_
  refine al_nilT ?_
  refine aw_cond rfl (fun h4_ => ?_) (fun h4_ => ?_)
  · try simp only [nrm] at h4_
    (have := empty_size h4_; omega)
  try simp only [nrm] at h4_
  refine aw_skipT ?_
  refine aw_seq ?_
  refine aw_region ?_
  refine al_opd rfl rfl rfl (ao_mv (v := .slice _ _ _) rfl) ?_
  first | refine al_opd rfl rfl rfl (ao_indexAddrS Tryd.underlying50 Tryd.sizeOf9 rfl rfl (by exact IXp) (by exact IXp)) ?_ | refine al_opd rfl rfl rfl (ao_indexV Tryd.underlying50 Tryd.sizeOf9 rfl rfl hsl0 (by exact IXp) (by exact IXp)) ?_ | refine al_opd rfl rfl rfl (ao_indexV Tryd.underlying50 Tryd.sizeOf9 rfl rfl hsl1 (by exact IXp) (by exact IXp)) ?_ | refine al_opd rfl rfl rfl (ao_indexV Tryd.underlying50 Tryd.sizeOf9 rfl rfl hslq (by exact IXp) (by exact IXp)) ?_ | refine al_opd rfl rfl rfl (ao_indexV Tryd.underlying50 Tryd.sizeOf9 rfl rfl hslp (by exact IXp) (by exact IXp)) ?_ | refine al_opd rfl rfl rfl (ao_indexV Tryd.underlying50 Tryd.sizeOf9 rfl rfl hslo (by exact IXp) (by exact IXp)) ?_
  first | refine al_opd rfl rfl rfl (ao_load (v := .string _) Tryd.isAgg9 (by rfl) (by exact HLp) (by rfl) (by exact RFp)) ?_ | refine al_opd rfl rfl rfl (ao_loadV (j := 0) (u := .string _) Tryd.isAgg9 hsl0 rfl rfl hP0 rfl) ?_ | refine al_opd rfl rfl rfl (ao_loadV (j := 1) (u := .string _) Tryd.isAgg9 hsl0 rfl rfl hP0 rfl) ?_ | refine al_opd rfl rfl rfl (ao_loadV (j := 0) (u := .string _) Tryd.isAgg9 hsl0 rfl rfl hP1 rfl) ?_ | refine al_opd rfl rfl rfl (ao_loadV (j := 1) (u := .string _) Tryd.isAgg9 hsl0 rfl rfl hP1 rfl) ?_ | refine al_opd rfl rfl rfl (ao_loadV (j := 0) (u := .string _) Tryd.isAgg9 hsl0 rfl rfl hQ0 rfl) ?_ | refine al_opd rfl rfl rfl (ao_loadV (j := 1) (u := .string _) Tryd.isAgg9 hsl0 rfl rfl hQ0 rfl) ?_ | refine al_opd rfl rfl rfl (ao_loadV (j := 0) (u := .string _) Tryd.isAgg9 hsl0 rfl rfl hQ1 rfl) ?_ | refine al_opd rfl rfl rfl (ao_loadV (j := 1) (u := .string _) Tryd.isAgg9 hsl0 rfl rfl hQ1 rfl) ?_ | refine al_opd rfl rfl rfl (ao_loadV (j := 0) (u := .string _) Tryd.isAgg9 hsl0 rfl rfl hxi rfl) ?_ | refine al_opd rfl rfl rfl (ao_loadV (j := 1) (u := .string _) Tryd.isAgg9 hsl0 rfl rfl hxi rfl) ?_ | refine al_opd rfl rfl rfl (ao_loadV (j := 0) (u := .string _) Tryd.isAgg9 hsl1 rfl rfl hP0 rfl) ?_ | refine al_opd rfl rfl rfl (ao_loadV (j := 1) (u := .string _) Tryd.isAgg9 hsl1 rfl rfl hP0 rfl) ?_ | refine al_opd rfl rfl rfl (ao_loadV (j := 0) (u := .string _) Tryd.isAgg9 hsl1 rfl rfl hP1 rfl) ?_ | refine al_opd rfl rfl rfl (ao_loadV (j := 1) (u := .string _) Tryd.isAgg9 hsl1 rfl rfl hP1 rfl) ?_ | refine al_opd rfl rfl rfl (ao_loadV (j := 0) (u := .string _) Tryd.isAgg9 hsl1 rfl rfl hQ0 rfl) ?_ | refine al_opd rfl rfl rfl (ao_loadV (j := 1) (u := .string _) Tryd.isAgg9 hsl1 rfl rfl hQ0 rfl) ?_ | refine al_opd rfl rfl rfl (ao_loadV (j := 0) (u := .string _) Tryd.isAgg9 hsl1 rfl rfl hQ1 rfl) ?_ | refine al_opd rfl rfl rfl (ao_loadV (j := 1) (u := .string _) Tryd.isAgg9 hsl1 rfl rfl hQ1 rfl) ?_ | refine al_opd rfl rfl rfl (ao_loadV (j := 0) (u := .string _) Tryd.isAgg9 hsl1 rfl rfl hxi rfl) ?_ | refine al_opd rfl rfl rfl (ao_loadV (j := 1) (u := .string _) Tryd.isAgg9 hsl1 rfl rfl hxi rfl) ?_ | refine al_opd rfl rfl rfl (ao_loadV (j := 0) (u := .string _) Tryd.isAgg9 hslq rfl rfl hP0 rfl) ?_ | refine al_opd rfl rfl rfl (ao_loadV (j := 1) (u := .string _) Tryd.isAgg9 hslq rfl rfl hP0 rfl) ?_ | refine al_opd rfl rfl rfl (ao_loadV (j := 0) (u := .string _) Tryd.isAgg9 hslq rfl rfl hP1 rfl) ?_ | refine al_opd rfl rfl rfl (ao_loadV (j := 1) (u := .string _) Tryd.isAgg9 hslq rfl rfl hP1 rfl) ?_ | refine al_opd rfl rfl rfl (ao_loadV (j := 0) (u := .string _) Tryd.isAgg9 hslq rfl rfl hQ0 rfl) ?_ | refine al_opd rfl rfl rfl (ao_loadV (j := 1) (u := .string _) Tryd.isAgg9 hslq rfl rfl hQ0 rfl) ?_ | refine al_opd rfl rfl rfl (ao_loadV (j := 0) (u := .string _) Tryd.isAgg9 hslq rfl rfl hQ1 rfl) ?_ | refine al_opd rfl rfl rfl (ao_loadV (j := 1) (u := .string _) Tryd.isAgg9 hslq rfl rfl hQ1 rfl) ?_ | refine al_opd rfl rfl rfl (ao_loadV (j := 0) (u := .string _) Tryd.isAgg9 hslq rfl rfl hxi rfl) ?_ | refine al_opd rfl rfl rfl (ao_loadV (j := 1) (u := .string _) Tryd.isAgg9 hslq rfl rfl hxi rfl) ?_ | refine al_opd rfl rfl rfl (ao_loadV (j := 0) (u := .string _) Tryd.isAgg9 hslp rfl rfl hP0 rfl) ?_ | refine al_opd rfl rfl rfl (ao_loadV (j := 1) (u := .string _) Tryd.isAgg9 hslp rfl rfl hP0 rfl) ?_ | refine al_opd rfl rfl rfl (ao_loadV (j := 0) (u := .string _) Tryd.isAgg9 hslp rfl rfl hP1 rfl) ?_ | refine al_opd rfl rfl rfl (ao_loadV (j := 1) (u := .string _) Tryd.isAgg9 hslp rfl rfl hP1 rfl) ?_ | refine al_opd rfl rfl rfl (ao_loadV (j := 0) (u := .string _) Tryd.isAgg9 hslp rfl rfl hQ0 rfl) ?_ | refine al_opd rfl rfl rfl (ao_loadV (j := 1) (u := .string _) Tryd.isAgg9 hslp rfl rfl hQ0 rfl) ?_ | refine al_opd rfl rfl rfl (ao_loadV (j := 0) (u := .string _) Tryd.isAgg9 hslp rfl rfl hQ1 rfl) ?_ | refine al_opd rfl rfl rfl (ao_loadV (j := 1) (u := .string _) Tryd.isAgg9 hslp rfl rfl hQ1 rfl) ?_ | refine al_opd rfl rfl rfl (ao_loadV (j := 0) (u := .string _) Tryd.isAgg9 hslp rfl rfl hxi rfl) ?_ | refine al_opd rfl rfl rfl (ao_loadV (j := 1) (u := .string _) Tryd.isAgg9 hslp rfl rfl hxi rfl) ?_ | refine al_opd rfl rfl rfl (ao_loadV (j := 0) (u := .string _) Tryd.isAgg9 hslo rfl rfl hP0 rfl) ?_ | refine al_opd rfl rfl rfl (ao_loadV (j := 1) (u := .string _) Tryd.isAgg9 hslo rfl rfl hP0 rfl) ?_ | refine al_opd rfl rfl rfl (ao_loadV (j := 0) (u := .string _) Tryd.isAgg9 hslo rfl rfl hP1 rfl) ?_ | refine al_opd rfl rfl rfl (ao_loadV (j := 1) (u := .string _) Tryd.isAgg9 hslo rfl rfl hP1 rfl) ?_ | refine al_opd rfl rfl rfl (ao_loadV (j := 0) (u := .string _) Tryd.isAgg9 hslo rfl rfl hQ0 rfl) ?_ | refine al_opd rfl rfl rfl (ao_loadV (j := 1) (u := .string _) Tryd.isAgg9 hslo rfl rfl hQ0 rfl) ?_ | refine al_opd rfl rfl rfl (ao_loadV (j := 0) (u := .string _) Tryd.isAgg9 hslo rfl rfl hQ1 rfl) ?_ | refine al_opd rfl rfl rfl (ao_loadV (j := 1) (u := .string _) Tryd.isAgg9 hslo rfl rfl hQ1 rfl) ?_ | refine al_opd rfl rfl rfl (ao_loadV (j := 0) (u := .string _) Tryd.isAgg9 hslo rfl rfl hxi rfl) ?_ | refine al_opd rfl rfl rfl (ao_loadV (j := 1) (u := .string _) Tryd.isAgg9 hslo rfl rfl hxi rfl) ?_
  refine al_opd rfl rfl rfl (ao_calld (l01NumX_c hN1) Tryd.call25 rfl rfl) ?_
  refine al_opd rfl rfl rfl (ao_mv (v := .tuple _) rfl) ?_
  refine al_opd rfl rfl rfl (ao_extract (v := .int _ _) rfl rfl) ?_
  refine al_opd rfl rfl rfl (ao_extract (v := .bool _) rfl rfl) ?_
  refine al_opd rfl rfl rfl (ao_as (v := .int _ _) rfl) ?_
  refine al_opd rfl rfl rfl (ao_as (v := .bool _) rfl) ?_
  refine al_nilT ?_
  refine aw_seq ?_
  refine aw_region ?_
  refine al_opd rfl rfl rfl (ao_mv (v := .slice _ _ _) rfl) ?_
  first | refine al_opd rfl rfl rfl (ao_indexAddrS Tryd.underlying50 Tryd.sizeOf9 rfl rfl (by exact IXp) (by exact IXp)) ?_ | refine al_opd rfl rfl rfl (ao_indexV Tryd.underlying50 Tryd.sizeOf9 rfl rfl hsl0 (by exact IXp) (by exact IXp)) ?_ | refine al_opd rfl rfl rfl (ao_indexV Tryd.underlying50 Tryd.sizeOf9 rfl rfl hsl1 (by exact IXp) (by exact IXp)) ?_ | refine al_opd rfl rfl rfl (ao_indexV Tryd.underlying50 Tryd.sizeOf9 rfl rfl hslq (by exact IXp) (by exact IXp)) ?_ | refine al_opd rfl rfl rfl (ao_indexV Tryd.underlying50 Tryd.sizeOf9 rfl rfl hslp (by exact IXp) (by exact IXp)) ?_ | refine al_opd rfl rfl rfl (ao_indexV Tryd.underlying50 Tryd.sizeOf9 rfl rfl hslo (by exact IXp) (by exact IXp)) ?_
  first | refine al_opd rfl rfl rfl (ao_load (v := .string _) Tryd.isAgg9 (by rfl) (by exact HLp) (by rfl) (by exact RFp)) ?_ | refine al_opd rfl rfl rfl (ao_loadV (j := 0) (u := .string _) Tryd.isAgg9 hsl0 rfl rfl hP0 rfl) ?_ | refine al_opd rfl rfl rfl (ao_loadV (j := 1) (u := .string _) Tryd.isAgg9 hsl0 rfl rfl hP0 rfl) ?_ | refine al_opd rfl rfl rfl (ao_loadV (j := 0) (u := .string _) Tryd.isAgg9 hsl0 rfl rfl hP1 rfl) ?_ | refine al_opd rfl rfl rfl (ao_loadV (j := 1) (u := .string _) Tryd.isAgg9 hsl0 rfl rfl hP1 rfl) ?_ | refine al_opd rfl rfl rfl (ao_loadV (j := 0) (u := .string _) Tryd.isAgg9 hsl0 rfl rfl hQ0 rfl) ?_ | refine al_opd rfl rfl rfl (ao_loadV (j := 1) (u := .string _) Tryd.isAgg9 hsl0 rfl rfl hQ0 rfl) ?_ | refine al_opd rfl rfl rfl (ao_loadV (j := 0) (u := .string _) Tryd.isAgg9 hsl0 rfl rfl hQ1 rfl) ?_ | refine al_opd rfl rfl rfl (ao_loadV (j := 1) (u := .string _) Tryd.isAgg9 hsl0 rfl rfl hQ1 rfl) ?_ | refine al_opd rfl rfl rfl (ao_loadV (j := 0) (u := .string _) Tryd.isAgg9 hsl0 rfl rfl hxi rfl) ?_ | refine al_opd rfl rfl rfl (ao_loadV (j := 1) (u := .string _) Tryd.isAgg9 hsl0 rfl rfl hxi rfl) ?_ | refine al_opd rfl rfl rfl (ao_loadV (j := 0) (u := .string _) Tryd.isAgg9 hsl1 rfl rfl hP0 rfl) ?_ | refine al_opd rfl rfl rfl (ao_loadV (j := 1) (u := .string _) Tryd.isAgg9 hsl1 rfl rfl hP0 rfl) ?_ | refine al_opd rfl rfl rfl (ao_loadV (j := 0) (u := .string _) Tryd.isAgg9 hsl1 rfl rfl hP1 rfl) ?_ | refine al_opd rfl rfl rfl (ao_loadV (j := 1) (u := .string _) Tryd.isAgg9 hsl1 rfl rfl hP1 rfl) ?_ | refine al_opd rfl rfl rfl (ao_loadV (j := 0) (u := .string _) Tryd.isAgg9 hsl1 rfl rfl hQ0 rfl) ?_ | refine al_opd rfl rfl rfl (ao_loadV (j := 1) (u := .string _) Tryd.isAgg9 hsl1 rfl rfl hQ0 rfl) ?_ | refine al_opd rfl rfl rfl (ao_loadV (j := 0) (u := .string _) Tryd.isAgg9 hsl1 rfl rfl hQ1 rfl) ?_ | refine al_opd rfl rfl rfl (ao_loadV (j := 1) (u := .string _) Tryd.isAgg9 hsl1 rfl rfl hQ1 rfl) ?_ | refine al_opd rfl rfl rfl (ao_loadV (j := 0) (u := .string _) Tryd.isAgg9 hsl1 rfl rfl hxi rfl) ?_ | refine al_opd rfl rfl rfl (ao_loadV (j := 1) (u := .string _) Tryd.isAgg9 hsl1 rfl rfl hxi rfl) ?_ | refine al_opd rfl rfl rfl (ao_loadV (j := 0) (u := .string _) Tryd.isAgg9 hslq rfl rfl hP0 rfl) ?_ | refine al_opd rfl rfl rfl (ao_loadV (j := 1) (u := .string _) Tryd.isAgg9 hslq rfl rfl hP0 rfl) ?_ | refine al_opd rfl rfl rfl (ao_loadV (j := 0) (u := .string _) Tryd.isAgg9 hslq rfl rfl hP1 rfl) ?_ | refine al_opd rfl rfl rfl (ao_loadV (j := 1) (u := .string _) Tryd.isAgg9 hslq rfl rfl hP1 rfl) ?_ | refine al_opd rfl rfl rfl (ao_loadV (j := 0) (u := .string _) Tryd.isAgg9 hslq rfl rfl hQ0 rfl) ?_ | refine al_opd rfl rfl rfl (ao_loadV (j := 1) (u := .string _) Tryd.isAgg9 hslq rfl rfl hQ0 rfl) ?_ | refine al_opd rfl rfl rfl (ao_loadV (j := 0) (u := .string _) Tryd.isAgg9 hslq rfl rfl hQ1 rfl) ?_ | refine al_opd rfl rfl rfl (ao_loadV (j := 1) (u := .string _) Tryd.isAgg9 hslq rfl rfl hQ1 rfl) ?_ | refine al_opd rfl rfl rfl (ao_loadV (j := 0) (u := .string _) Tryd.isAgg9 hslq rfl rfl hxi rfl) ?_ | refine al_opd rfl rfl rfl (ao_loadV (j := 1) (u := .string _) Tryd.isAgg9 hslq rfl rfl hxi rfl) ?_ | refine al_opd rfl rfl rfl (ao_loadV (j := 0) (u := .string _) Tryd.isAgg9 hslp rfl rfl hP0 rfl) ?_ | refine al_opd rfl rfl rfl (ao_loadV (j := 1) (u := .string _) Tryd.isAgg9 hslp rfl rfl hP0 rfl) ?_ | refine al_opd rfl rfl rfl (ao_loadV (j := 0) (u := .string _) Tryd.isAgg9 hslp rfl rfl hP1 rfl) ?_ | refine al_opd rfl rfl rfl (ao_loadV (j := 1) (u := .string _) Tryd.isAgg9 hslp rfl rfl hP1 rfl) ?_ | refine al_opd rfl rfl rfl (ao_loadV (j := 0) (u := .string _) Tryd.isAgg9 hslp rfl rfl hQ0 rfl) ?_ | refine al_opd rfl rfl rfl (ao_loadV (j := 1) (u := .string _) Tryd.isAgg9 hslp rfl rfl hQ0 rfl) ?_ | refine al_opd rfl rfl rfl (ao_loadV (j := 0) (u := .string _) Tryd.isAgg9 hslp rfl rfl hQ1 rfl) ?_ | refine al_opd rfl rfl rfl (ao_loadV (j := 1) (u := .string _) Tryd.isAgg9 hslp rfl rfl hQ1 rfl) ?_ | refine al_opd rfl rfl rfl (ao_loadV (j := 0) (u := .string _) Tryd.isAgg9 hslp rfl rfl hxi rfl) ?_ | refine al_opd rfl rfl rfl (ao_loadV (j := 1) (u := .string _) Tryd.isAgg9 hslp rfl rfl hxi rfl) ?_ | refine al_opd rfl rfl rfl (ao_loadV (j := 0) (u := .string _) Tryd.isAgg9 hslo rfl rfl hP0 rfl) ?_ | refine al_opd rfl rfl rfl (ao_loadV (j := 1) (u := .string _) Tryd.isAgg9 hslo rfl rfl hP0 rfl) ?_ | refine al_opd rfl rfl rfl (ao_loadV (j := 0) (u := .string _) Tryd.isAgg9 hslo rfl rfl hP1 rfl) ?_ | refine al_opd rfl rfl rfl (ao_loadV (j := 1) (u := .string _) Tryd.isAgg9 hslo rfl rfl hP1 rfl) ?_ | refine al_opd rfl rfl rfl (ao_loadV (j := 0) (u := .string _) Tryd.isAgg9 hslo rfl rfl hQ0 rfl) ?_ | refine al_opd rfl rfl rfl (ao_loadV (j := 1) (u := .string _) Tryd.isAgg9 hslo rfl rfl hQ0 rfl) ?_ | refine al_opd rfl rfl rfl (ao_loadV (j := 0) (u := .string _) Tryd.isAgg9 hslo rfl rfl hQ1 rfl) ?_ | refine al_opd rfl rfl rfl (ao_loadV (j := 1) (u := .string _) Tryd.isAgg9 hslo rfl rfl hQ1 rfl) ?_ | refine al_opd rfl rfl rfl (ao_loadV (j := 0) (u := .string _) Tryd.isAgg9 hslo rfl rfl hxi rfl) ?_ | refine al_opd rfl rfl rfl (ao_loadV (j := 1) (u := .string _) Tryd.isAgg9 hslo rfl rfl hxi rfl) ?_
  refine al_opd rfl rfl rfl (ao_calld (l01NumX_c hN2) Tryd.call25 rfl rfl) ?_
  refine al_opd rfl rfl rfl (ao_mv (v := .tuple _) rfl) ?_
  refine al_opd rfl rfl rfl (ao_extract (v := .int _ _) rfl rfl) ?_
  refine al_opd rfl rfl rfl (ao_extract (v := .bool _) rfl rfl) ?_
  refine al_opd rfl rfl rfl (ao_as (v := .int _ _) rfl) ?_
  refine al_opd rfl rfl rfl (ao_as (v := .bool _) rfl) ?_
  refine al_nilT ?_
  refine aw_seq ?_
  refine aw_seq ?_
  refine aw_region ?_
  refine al_opd rfl rfl rfl (ao_mv (v := .bool _) rfl) ?_
  refine al_opd rfl rfl rfl (ao_not rfl) ?_
  refine al_opd rfl rfl rfl (ao_mv (v := .bool _) rfl) ?_
  refine al_cases (d := 55) rfl (fun h5_ => ?_) (fun h5_ => ?_)
  · try simp only [nrm] at h5_
    first | done | omega | (exfalso; revert h5_; simp; (first | done | omega))
  try simp only [nrm] at h5_
  refine al_gyes rfl rfl rfl rfl rfl (ao_mv (v := .bool _) rfl) ?_
  refine al_gyes rfl rfl rfl rfl rfl (ao_not rfl) ?_
  refine al_opd rfl rfl rfl (ao_pickF rfl (v := .bool _) rfl) ?_
  refine al_opd rfl rfl rfl (ao_mv (v := .bool _) rfl) ?_
  refine al_cases (d := 59) rfl (fun h6_ => ?_) (fun h6_ => ?_)
  · try simp only [nrm] at h6_
    first | done | omega | (exfalso; revert h6_; simp; (first | done | omega))
  try simp only [nrm] at h6_
  refine al_gyes rfl rfl rfl rfl rfl (ao_mv (v := .int _ _) rfl) ?_
  refine al_gyes rfl rfl rfl rfl rfl (ao_geq rfl rfl) ?_
  refine al_opd rfl rfl rfl (ao_pickF rfl (v := .bool _) rfl) ?_
  refine al_opd rfl rfl rfl (ao_mv (v := .bool _) rfl) ?_
  refine al_cases (d := 63) rfl (fun h7_ => ?_) (fun h7_ => ?_)
  · try simp only [nrm] at h7_
    first | done | omega | (exfalso; revert h7_; simp; (first | done | omega))
  try simp only [nrm] at h7_
  refine al_gyes rfl rfl rfl rfl rfl (ao_mv (v := .int _ _) rfl) ?_
  refine al_gyes rfl rfl rfl rfl rfl (ao_geq rfl rfl) ?_
  refine al_opd rfl rfl rfl (ao_pickF rfl (v := .bool _) rfl) ?_
  refine al_nilT ?_
  refine aw_cond rfl (fun h8_ => ?_) (fun h8_ => ?_)
  · try simp only [nrm] at h8_
    first | done | omega | (exfalso; revert h8_; simp; (first | done | omega))
  try simp only [nrm] at h8_
  refine aw_skipT ?_
  refine aw_seq ?_
  refine aw_region ?_
  refine al_opd rfl rfl rfl (ao_mv (v := .int _ _) rfl) ?_
  first | refine al_opd rfl rfl rfl ((ao_conv ⟨_, Tryd.underlying2⟩ Tryd.underlying35 rfl).val (nw_i8 BDp BDp)) ?_ | refine al_opd rfl rfl rfl (ao_conv ⟨_, Tryd.underlying2⟩ Tryd.underlying35 rfl) ?_
  refine al_opd rfl rfl rfl (ao_mv (v := .int _ _) rfl) ?_
  first | refine al_opd rfl rfl rfl ((ao_conv ⟨_, Tryd.underlying2⟩ Tryd.underlying35 rfl).val (nw_i8 BDp BDp)) ?_ | refine al_opd rfl rfl rfl (ao_conv ⟨_, Tryd.underlying2⟩ Tryd.underlying35 rfl) ?_
  refine al_opd rfl rfl rfl (ao_build (A := #[.int .i8 (at_ l 0).x, .int .i8 (at_ l 0).y]) Tryd.zeroValue37 (by rfl) (by first | rfl | kernel_rfl) (by rfl) (by first | rfl | kernel_rfl)) ?_
  refine al_opd rfl rfl rfl (ao_lit1 (v := .agg _) Tryd.underlying26 Tryd.sizeOf37 Tryd.zeroValue37 (by rfl) (by rfl) rfl rfl (by rfl) (by exact RFp)) ?_
  refine al_opd rfl rfl rfl (ao_as (v := .slice _ _ _) rfl) ?_
  refine al_nilT ?_
  refine aw_seq ?_
  refine aw_seq ?_
  refine aw_region ?_
  refine al_opd rfl rfl rfl (ao_as (v := .int _ _) rfl) ?_
  refine al_nilT ?_
  refine aw_block ?_
  refine aw_loop (fun (gk : Nat) (fr : AFr) (G : AHeap) => ∃ get : Nat → Value, fr = ⟨115, get⟩ ∧ (∃ (i qb n k : Nat), i ≤ w.size ∧ gk = w.size - i ∧ Same H.next H G ∧ H.next + 2 ≤ qb ∧ qb < G.next ∧ G.blk H.next = some (.cells (fl str1 (pcs 32 t)) 1) ∧ G.blk qb = some (.cells (fl spot (pathTo (at_ l 0) w i)) 2) ∧ n = (pathTo (at_ l 0) w i).length ∧ n ≤ k ∧ i ≤ 11 ∧ (∀ (j : Nat) b, j < i → w[j]? = some b → 0 ≤ lt4 b) ∧ get 4 = .slice (some ⟨H.next, 0, none⟩) (pcs 32 t).length ((pcs 32 t).length + 1) ∧ get 10 = .slice (some ⟨qb, 0, none⟩) n k ∧ get 11 = .int .i64 i)) (w.size) ⟨_, rfl, ?_⟩ ?_
  · refine ⟨0, _, 1, _, Nat.zero_le _, rfl, by exact SMp, ?_, ?_, by exact HLp, by exact HLp, rfl, Nat.le_refl _, Nat.zero_le _, fun j b h => by omega, rfl, rfl, rfl⟩ <;> exact LNp
  · rintro gk fr G ⟨get, rfl, i, qb, n, k, hi, rfl, hG, hqb, hlt, hb0, hkb, hn, hk, h11, hlv, g4, g10, g11⟩
    have hni : n = i + 1 := by rw [hn, path_len]
    have hslp : Sl G str1 1 (.slice (some ⟨H.next, 0, none⟩) (pcs 32 t).length ((pcs 32 t).length + 1)) (pcs 32 t) := Sl.full str1_len hb0 rfl rfl rfl
    have hslo : Sl G spot 2 (.slice (some ⟨qb, 0, none⟩) n k) (pathTo (at_ l 0) w i) := Sl.full spot_len hkb rfl rfl hn
    have hxi := path_at (at_ l 0) w (Nat.le_refl i)
    refine aw_slot (d := 4) (v := .slice (some ⟨H.next, 0, none⟩) (pcs 32 t).length ((pcs 32 t).length + 1)) (by first | assumption | rfl) ?_
    refine aw_slot (d := 10) (v := .slice (some ⟨qb, 0, none⟩) n k) (by first | assumption | rfl) ?_
    refine aw_slot (d := 11) (v := .int .i64 i) (by first | assumption | rfl) ?_
    refine aw_seq ?_
    refine aw_seq ?_
    refine aw_region ?_
    refine al_opd rfl rfl rfl (ao_mv (v := .slice _ _ _) rfl) ?_
    first | refine al_opd rfl rfl rfl (ao_lenS Tryd.underlying50 (by rfl)) ?_ | refine al_opd rfl rfl rfl (ao_lenN Tryd.underlying50 (by rfl)) ?_ | refine al_opd rfl rfl rfl (ao_lenV Tryd.underlying50 rfl hsl0) ?_ | refine al_opd rfl rfl rfl (ao_lenV Tryd.underlying50 rfl hsl1) ?_ | refine al_opd rfl rfl rfl (ao_lenV Tryd.underlying50 rfl hslq) ?_ | refine al_opd rfl rfl rfl (ao_lenV Tryd.underlying50 rfl hslp) ?_ | refine al_opd rfl rfl rfl (ao_lenV Tryd.underlying50 rfl hslo) ?_
    refine al_opd rfl rfl rfl (ao_eql rfl rfl) ?_
    refine al_opd rfl rfl rfl (ao_mv (v := .bool _) rfl) ?_
    refine al_cases (d := 77) rfl (fun h9_ => ?_) (fun h9_ => ?_)
    rotate_left
    · try simp only [nrm] at h9_
      first | done | omega | (exfalso; revert h9_; simp; (first | done | omega))
    try simp only [nrm] at h9_
    refine al_gyes rfl rfl rfl rfl rfl (ao_mv (v := .int _ _) rfl) ?_
    refine al_gyes rfl rfl rfl rfl rfl (ao_mv (v := .slice _ _ _) rfl) ?_
    first | refine al_gyes rfl rfl rfl rfl rfl (ao_indexAddrS Tryd.underlying50 Tryd.sizeOf9 rfl rfl (by exact IXp) (by exact IXp)) ?_ | refine al_gyes rfl rfl rfl rfl rfl (ao_indexV Tryd.underlying50 Tryd.sizeOf9 rfl rfl hsl0 (by exact IXp) (by exact IXp)) ?_ | refine al_gyes rfl rfl rfl rfl rfl (ao_indexV Tryd.underlying50 Tryd.sizeOf9 rfl rfl hsl1 (by exact IXp) (by exact IXp)) ?_ | refine al_gyes rfl rfl rfl rfl rfl (ao_indexV Tryd.underlying50 Tryd.sizeOf9 rfl rfl hslq (by exact IXp) (by exact IXp)) ?_ | refine al_gyes rfl rfl rfl rfl rfl (ao_indexV Tryd.underlying50 Tryd.sizeOf9 rfl rfl hslp (by exact IXp) (by exact IXp)) ?_ | refine al_gyes rfl rfl rfl rfl rfl (ao_indexV Tryd.underlying50 Tryd.sizeOf9 rfl rfl hslo (by exact IXp) (by exact IXp)) ?_
    first | refine al_gyes rfl rfl rfl rfl rfl (ao_load (v := .string _) Tryd.isAgg9 (by rfl) (by exact HLp) (by rfl) (by exact RFp)) ?_ | refine al_gyes rfl rfl rfl rfl rfl (ao_loadV (j := 0) (u := .string _) Tryd.isAgg9 hsl0 rfl rfl hP0 rfl) ?_ | refine al_gyes rfl rfl rfl rfl rfl (ao_loadV (j := 1) (u := .string _) Tryd.isAgg9 hsl0 rfl rfl hP0 rfl) ?_ | refine al_gyes rfl rfl rfl rfl rfl (ao_loadV (j := 0) (u := .string _) Tryd.isAgg9 hsl0 rfl rfl hP1 rfl) ?_ | refine al_gyes rfl rfl rfl rfl rfl (ao_loadV (j := 1) (u := .string _) Tryd.isAgg9 hsl0 rfl rfl hP1 rfl) ?_ | refine al_gyes rfl rfl rfl rfl rfl (ao_loadV (j := 0) (u := .string _) Tryd.isAgg9 hsl0 rfl rfl hQ0 rfl) ?_ | refine al_gyes rfl rfl rfl rfl rfl (ao_loadV (j := 1) (u := .string _) Tryd.isAgg9 hsl0 rfl rfl hQ0 rfl) ?_ | refine al_gyes rfl rfl rfl rfl rfl (ao_loadV (j := 0) (u := .string _) Tryd.isAgg9 hsl0 rfl rfl hQ1 rfl) ?_ | refine al_gyes rfl rfl rfl rfl rfl (ao_loadV (j := 1) (u := .string _) Tryd.isAgg9 hsl0 rfl rfl hQ1 rfl) ?_ | refine al_gyes rfl rfl rfl rfl rfl (ao_loadV (j := 0) (u := .string _) Tryd.isAgg9 hsl0 rfl rfl hxi rfl) ?_ | refine al_gyes rfl rfl rfl rfl rfl (ao_loadV (j := 1) (u := .string _) Tryd.isAgg9 hsl0 rfl rfl hxi rfl) ?_ | refine al_gyes rfl rfl rfl rfl rfl (ao_loadV (j := 0) (u := .string _) Tryd.isAgg9 hsl1 rfl rfl hP0 rfl) ?_ | refine al_gyes rfl rfl rfl rfl rfl (ao_loadV (j := 1) (u := .string _) Tryd.isAgg9 hsl1 rfl rfl hP0 rfl) ?_ | refine al_gyes rfl rfl rfl rfl rfl (ao_loadV (j := 0) (u := .string _) Tryd.isAgg9 hsl1 rfl rfl hP1 rfl) ?_ | refine al_gyes rfl rfl rfl rfl rfl (ao_loadV (j := 1) (u := .string _) Tryd.isAgg9 hsl1 rfl rfl hP1 rfl) ?_ | refine al_gyes rfl rfl rfl rfl rfl (ao_loadV (j := 0) (u := .string _) Tryd.isAgg9 hsl1 rfl rfl hQ0 rfl) ?_ | refine al_gyes rfl rfl rfl rfl rfl (ao_loadV (j := 1) (u := .string _) Tryd.isAgg9 hsl1 rfl rfl hQ0 rfl) ?_ | refine al_gyes rfl rfl rfl rfl rfl (ao_loadV (j := 0) (u := .string _) Tryd.isAgg9 hsl1 rfl rfl hQ1 rfl) ?_ | refine al_gyes rfl rfl rfl rfl rfl (ao_loadV (j := 1) (u := .string _) Tryd.isAgg9 hsl1 rfl rfl hQ1 rfl) ?_ | refine al_gyes rfl rfl rfl rfl rfl (ao_loadV (j := 0) (u := .string _) Tryd.isAgg9 hsl1 rfl rfl hxi rfl) ?_ | refine al_gyes rfl rfl rfl rfl rfl (ao_loadV (j := 1) (u := .string _) Tryd.isAgg9 hsl1 rfl rfl hxi rfl) ?_ | refine al_gyes rfl rfl rfl rfl rfl (ao_loadV (j := 0) (u := .string _) Tryd.isAgg9 hslq rfl rfl hP0 rfl) ?_ | refine al_gyes rfl rfl rfl rfl rfl (ao_loadV (j := 1) (u := .string _) Tryd.isAgg9 hslq rfl rfl hP0 rfl) ?_ | refine al_gyes rfl rfl rfl rfl rfl (ao_loadV (j := 0) (u := .string _) Tryd.isAgg9 hslq rfl rfl hP1 rfl) ?_ | refine al_gyes rfl rfl rfl rfl rfl (ao_loadV (j := 1) (u := .string _) Tryd.isAgg9 hslq rfl rfl hP1 rfl) ?_ | refine al_gyes rfl rfl rfl rfl rfl (ao_loadV (j := 0) (u := .string _) Tryd.isAgg9 hslq rfl rfl hQ0 rfl) ?_ | refine al_gyes rfl rfl rfl rfl rfl (ao_loadV (j := 1) (u := .string _) Tryd.isAgg9 hslq rfl rfl hQ0 rfl) ?_ | refine al_gyes rfl rfl rfl rfl rfl (ao_loadV (j := 0) (u := .string _) Tryd.isAgg9 hslq rfl rfl hQ1 rfl) ?_ | refine al_gyes rfl rfl rfl rfl rfl (ao_loadV (j := 1) (u := .string _) Tryd.isAgg9 hslq rfl rfl hQ1 rfl) ?_ | refine al_gyes rfl rfl rfl rfl rfl (ao_loadV (j := 0) (u := .string _) Tryd.isAgg9 hslq rfl rfl hxi rfl) ?_ | refine al_gyes rfl rfl rfl rfl rfl (ao_loadV (j := 1) (u := .string _) Tryd.isAgg9 hslq rfl rfl hxi rfl) ?_ | refine al_gyes rfl rfl rfl rfl rfl (ao_loadV (j := 0) (u := .string _) Tryd.isAgg9 hslp rfl rfl hP0 rfl) ?_ | refine al_gyes rfl rfl rfl rfl rfl (ao_loadV (j := 1) (u := .string _) Tryd.isAgg9 hslp rfl rfl hP0 rfl) ?_ | refine al_gyes rfl rfl rfl rfl rfl (ao_loadV (j := 0) (u := .string _) Tryd.isAgg9 hslp rfl rfl hP1 rfl) ?_ | refine al_gyes rfl rfl rfl rfl rfl (ao_loadV (j := 1) (u := .string _) Tryd.isAgg9 hslp rfl rfl hP1 rfl) ?_ | refine al_gyes rfl rfl rfl rfl rfl (ao_loadV (j := 0) (u := .string _) Tryd.isAgg9 hslp rfl rfl hQ0 rfl) ?_ | refine al_gyes rfl rfl rfl rfl rfl (ao_loadV (j := 1) (u := .string _) Tryd.isAgg9 hslp rfl rfl hQ0 rfl) ?_ | refine al_gyes rfl rfl rfl rfl rfl (ao_loadV (j := 0) (u := .string _) Tryd.isAgg9 hslp rfl rfl hQ1 rfl) ?_ | refine al_gyes rfl rfl rfl rfl rfl (ao_loadV (j := 1) (u := .string _) Tryd.isAgg9 hslp rfl rfl hQ1 rfl) ?_ | refine al_gyes rfl rfl rfl rfl rfl (ao_loadV (j := 0) (u := .string _) Tryd.isAgg9 hslp rfl rfl hxi rfl) ?_ | refine al_gyes rfl rfl rfl rfl rfl (ao_loadV (j := 1) (u := .string _) Tryd.isAgg9 hslp rfl rfl hxi rfl) ?_ | refine al_gyes rfl rfl rfl rfl rfl (ao_loadV (j := 0) (u := .string _) Tryd.isAgg9 hslo rfl rfl hP0 rfl) ?_ | refine al_gyes rfl rfl rfl rfl rfl (ao_loadV (j := 1) (u := .string _) Tryd.isAgg9 hslo rfl rfl hP0 rfl) ?_ | refine al_gyes rfl rfl rfl rfl rfl (ao_loadV (j := 0) (u := .string _) Tryd.isAgg9 hslo rfl rfl hP1 rfl) ?_ | refine al_gyes rfl rfl rfl rfl rfl (ao_loadV (j := 1) (u := .string _) Tryd.isAgg9 hslo rfl rfl hP1 rfl) ?_ | refine al_gyes rfl rfl rfl rfl rfl (ao_loadV (j := 0) (u := .string _) Tryd.isAgg9 hslo rfl rfl hQ0 rfl) ?_ | refine al_gyes rfl rfl rfl rfl rfl (ao_loadV (j := 1) (u := .string _) Tryd.isAgg9 hslo rfl rfl hQ0 rfl) ?_ | refine al_gyes rfl rfl rfl rfl rfl (ao_loadV (j := 0) (u := .string _) Tryd.isAgg9 hslo rfl rfl hQ1 rfl) ?_ | refine al_gyes rfl rfl rfl rfl rfl (ao_loadV (j := 1) (u := .string _) Tryd.isAgg9 hslo rfl rfl hQ1 rfl) ?_ | refine al_gyes rfl rfl rfl rfl rfl (ao_loadV (j := 0) (u := .string _) Tryd.isAgg9 hslo rfl rfl hxi rfl) ?_ | refine al_gyes rfl rfl rfl rfl rfl (ao_loadV (j := 1) (u := .string _) Tryd.isAgg9 hslo rfl rfl hxi rfl) ?_
    refine al_gyes rfl rfl rfl rfl rfl (ao_lenStr Tryd.underlying9 (by rfl)) ?_
    refine al_gyes rfl rfl rfl rfl rfl (ao_lss rfl rfl) ?_
    refine al_opd rfl rfl rfl (ao_pickT rfl (v := .bool _) rfl) ?_
    refine al_nilT ?_
    refine aw_cond rfl (fun h10_ => ?_) (fun h10_ => ?_)
    · try simp only [nrm] at h10_
      obtain ⟨b, hb⟩ := strAt (show i < w.size by omega)
      have hlb := lt4_bnd b
      refine aw_skipT ?_
      refine aw_seq ?_
      refine aw_block ?_
      refine aw_seq ?_
      refine aw_region ?_
      refine al_opd rfl rfl rfl (ao_mv (v := .slice _ _ _) rfl) ?_
      first | refine al_opd rfl rfl rfl (ao_indexAddrS Tryd.underlying50 Tryd.sizeOf9 rfl rfl (by exact IXp) (by exact IXp)) ?_ | refine al_opd rfl rfl rfl (ao_indexV Tryd.underlying50 Tryd.sizeOf9 rfl rfl hsl0 (by exact IXp) (by exact IXp)) ?_ | refine al_opd rfl rfl rfl (ao_indexV Tryd.underlying50 Tryd.sizeOf9 rfl rfl hsl1 (by exact IXp) (by exact IXp)) ?_ | refine al_opd rfl rfl rfl (ao_indexV Tryd.underlying50 Tryd.sizeOf9 rfl rfl hslq (by exact IXp) (by exact IXp)) ?_ | refine al_opd rfl rfl rfl (ao_indexV Tryd.underlying50 Tryd.sizeOf9 rfl rfl hslp (by exact IXp) (by exact IXp)) ?_ | refine al_opd rfl rfl rfl (ao_indexV Tryd.underlying50 Tryd.sizeOf9 rfl rfl hslo (by exact IXp) (by exact IXp)) ?_
      first | refine al_opd rfl rfl rfl (ao_load (v := .string _) Tryd.isAgg9 (by rfl) (by exact HLp) (by rfl) (by exact RFp)) ?_ | refine al_opd rfl rfl rfl (ao_loadV (j := 0) (u := .string _) Tryd.isAgg9 hsl0 rfl rfl hP0 rfl) ?_ | refine al_opd rfl rfl rfl (ao_loadV (j := 1) (u := .string _) Tryd.isAgg9 hsl0 rfl rfl hP0 rfl) ?_ | refine al_opd rfl rfl rfl (ao_loadV (j := 0) (u := .string _) Tryd.isAgg9 hsl0 rfl rfl hP1 rfl) ?_ | refine al_opd rfl rfl rfl (ao_loadV (j := 1) (u := .string _) Tryd.isAgg9 hsl0 rfl rfl hP1 rfl) ?_ | refine al_opd rfl rfl rfl (ao_loadV (j := 0) (u := .string _) Tryd.isAgg9 hsl0 rfl rfl hQ0 rfl) ?_ | refine al_opd rfl rfl rfl (ao_loadV (j := 1) (u := .string _) Tryd.isAgg9 hsl0 rfl rfl hQ0 rfl) ?_ | refine al_opd rfl rfl rfl (ao_loadV (j := 0) (u := .string _) Tryd.isAgg9 hsl0 rfl rfl hQ1 rfl) ?_ | refine al_opd rfl rfl rfl (ao_loadV (j := 1) (u := .string _) Tryd.isAgg9 hsl0 rfl rfl hQ1 rfl) ?_ | refine al_opd rfl rfl rfl (ao_loadV (j := 0) (u := .string _) Tryd.isAgg9 hsl0 rfl rfl hxi rfl) ?_ | refine al_opd rfl rfl rfl (ao_loadV (j := 1) (u := .string _) Tryd.isAgg9 hsl0 rfl rfl hxi rfl) ?_ | refine al_opd rfl rfl rfl (ao_loadV (j := 0) (u := .string _) Tryd.isAgg9 hsl1 rfl rfl hP0 rfl) ?_ | refine al_opd rfl rfl rfl (ao_loadV (j := 1) (u := .string _) Tryd.isAgg9 hsl1 rfl rfl hP0 rfl) ?_ | refine al_opd rfl rfl rfl (ao_loadV (j := 0) (u := .string _) Tryd.isAgg9 hsl1 rfl rfl hP1 rfl) ?_ | refine al_opd rfl rfl rfl (ao_loadV (j := 1) (u := .string _) Tryd.isAgg9 hsl1 rfl rfl hP1 rfl) ?_ | refine al_opd rfl rfl rfl (ao_loadV (j := 0) (u := .string _) Tryd.isAgg9 hsl1 rfl rfl hQ0 rfl) ?_ | refine al_opd rfl rfl rfl (ao_loadV (j := 1) (u := .string _) Tryd.isAgg9 hsl1 rfl rfl hQ0 rfl) ?_ | refine al_opd rfl rfl rfl (ao_loadV (j := 0) (u := .string _) Tryd.isAgg9 hsl1 rfl rfl hQ1 rfl) ?_ | refine al_opd rfl rfl rfl (ao_loadV (j := 1) (u := .string _) Tryd.isAgg9 hsl1 rfl rfl hQ1 rfl) ?_ | refine al_opd rfl rfl rfl (ao_loadV (j := 0) (u := .string _) Tryd.isAgg9 hsl1 rfl rfl hxi rfl) ?_ | refine al_opd rfl rfl rfl (ao_loadV (j := 1) (u := .string _) Tryd.isAgg9 hsl1 rfl rfl hxi rfl) ?_ | refine al_opd rfl rfl rfl (ao_loadV (j := 0) (u := .string _) Tryd.isAgg9 hslq rfl rfl hP0 rfl) ?_ | refine al_opd rfl rfl rfl (ao_loadV (j := 1) (u := .string _) Tryd.isAgg9 hslq rfl rfl hP0 rfl) ?_ | refine al_opd rfl rfl rfl (ao_loadV (j := 0) (u := .string _) Tryd.isAgg9 hslq rfl rfl hP1 rfl) ?_ | refine al_opd rfl rfl rfl (ao_loadV (j := 1) (u := .string _) Tryd.isAgg9 hslq rfl rfl hP1 rfl) ?_ | refine al_opd rfl rfl rfl (ao_loadV (j := 0) (u := .string _) Tryd.isAgg9 hslq rfl rfl hQ0 rfl) ?_ | refine al_opd rfl rfl rfl (ao_loadV (j := 1) (u := .string _) Tryd.isAgg9 hslq rfl rfl hQ0 rfl) ?_ | refine al_opd rfl rfl rfl (ao_loadV (j := 0) (u := .string _) Tryd.isAgg9 hslq rfl rfl hQ1 rfl) ?_ | refine al_opd rfl rfl rfl (ao_loadV (j := 1) (u := .string _) Tryd.isAgg9 hslq rfl rfl hQ1 rfl) ?_ | refine al_opd rfl rfl rfl (ao_loadV (j := 0) (u := .string _) Tryd.isAgg9 hslq rfl rfl hxi rfl) ?_ | refine al_opd rfl rfl rfl (ao_loadV (j := 1) (u := .string _) Tryd.isAgg9 hslq rfl rfl hxi rfl) ?_ | refine al_opd rfl rfl rfl (ao_loadV (j := 0) (u := .string _) Tryd.isAgg9 hslp rfl rfl hP0 rfl) ?_ | refine al_opd rfl rfl rfl (ao_loadV (j := 1) (u := .string _) Tryd.isAgg9 hslp rfl rfl hP0 rfl) ?_ | refine al_opd rfl rfl rfl (ao_loadV (j := 0) (u := .string _) Tryd.isAgg9 hslp rfl rfl hP1 rfl) ?_ | refine al_opd rfl rfl rfl (ao_loadV (j := 1) (u := .string _) Tryd.isAgg9 hslp rfl rfl hP1 rfl) ?_ | refine al_opd rfl rfl rfl (ao_loadV (j := 0) (u := .string _) Tryd.isAgg9 hslp rfl rfl hQ0 rfl) ?_ | refine al_opd rfl rfl rfl (ao_loadV (j := 1) (u := .string _) Tryd.isAgg9 hslp rfl rfl hQ0 rfl) ?_ | refine al_opd rfl rfl rfl (ao_loadV (j := 0) (u := .string _) Tryd.isAgg9 hslp rfl rfl hQ1 rfl) ?_ | refine al_opd rfl rfl rfl (ao_loadV (j := 1) (u := .string _) Tryd.isAgg9 hslp rfl rfl hQ1 rfl) ?_ | refine al_opd rfl rfl rfl (ao_loadV (j := 0) (u := .string _) Tryd.isAgg9 hslp rfl rfl hxi rfl) ?_ | refine al_opd rfl rfl rfl (ao_loadV (j := 1) (u := .string _) Tryd.isAgg9 hslp rfl rfl hxi rfl) ?_ | refine al_opd rfl rfl rfl (ao_loadV (j := 0) (u := .string _) Tryd.isAgg9 hslo rfl rfl hP0 rfl) ?_ | refine al_opd rfl rfl rfl (ao_loadV (j := 1) (u := .string _) Tryd.isAgg9 hslo rfl rfl hP0 rfl) ?_ | refine al_opd rfl rfl rfl (ao_loadV (j := 0) (u := .string _) Tryd.isAgg9 hslo rfl rfl hP1 rfl) ?_ | refine al_opd rfl rfl rfl (ao_loadV (j := 1) (u := .string _) Tryd.isAgg9 hslo rfl rfl hP1 rfl) ?_ | refine al_opd rfl rfl rfl (ao_loadV (j := 0) (u := .string _) Tryd.isAgg9 hslo rfl rfl hQ0 rfl) ?_ | refine al_opd rfl rfl rfl (ao_loadV (j := 1) (u := .string _) Tryd.isAgg9 hslo rfl rfl hQ0 rfl) ?_ | refine al_opd rfl rfl rfl (ao_loadV (j := 0) (u := .string _) Tryd.isAgg9 hslo rfl rfl hQ1 rfl) ?_ | refine al_opd rfl rfl rfl (ao_loadV (j := 1) (u := .string _) Tryd.isAgg9 hslo rfl rfl hQ1 rfl) ?_ | refine al_opd rfl rfl rfl (ao_loadV (j := 0) (u := .string _) Tryd.isAgg9 hslo rfl rfl hxi rfl) ?_ | refine al_opd rfl rfl rfl (ao_loadV (j := 1) (u := .string _) Tryd.isAgg9 hslo rfl rfl hxi rfl) ?_
      refine al_opd rfl rfl rfl (ao_mv (v := .int _ _) rfl) ?_
      refine al_opd rfl rfl rfl (ao_indexStr Tryd.underlying9 (by rfl) (by rfl) (by first | rfl | omega) (by assumption)) ?_
      refine al_opd rfl rfl rfl (ao_calld (l02Letter4_c (b := b)) Tryd.call26 rfl rfl) ?_
      refine al_opd rfl rfl rfl (ao_as (v := .int _ _) rfl) ?_
      refine al_nilT ?_
      refine aw_seq ?_
      refine aw_seq ?_
      refine aw_region ?_
      refine al_opd rfl rfl rfl (ao_mv (v := .int _ _) rfl) ?_
      refine al_opd rfl rfl rfl (ao_lss rfl rfl) ?_
      refine al_opd rfl rfl rfl (ao_mv (v := .bool _) rfl) ?_
      refine al_cases (d := 95) rfl (fun h11_ => ?_) (fun h11_ => ?_)
      · try simp only [nrm] at h11_
        (have := yes_letter hv hwd (by omega) hb; omega)
      try simp only [nrm] at h11_
      refine al_gyes rfl rfl rfl rfl rfl (ao_mv (v := .slice _ _ _) rfl) ?_
      first | refine al_gyes rfl rfl rfl rfl rfl (ao_lenS Tryd.underlying26 (by rfl)) ?_ | refine al_gyes rfl rfl rfl rfl rfl (ao_lenN Tryd.underlying26 (by rfl)) ?_ | refine al_gyes rfl rfl rfl rfl rfl (ao_lenV Tryd.underlying26 rfl hsl0) ?_ | refine al_gyes rfl rfl rfl rfl rfl (ao_lenV Tryd.underlying26 rfl hsl1) ?_ | refine al_gyes rfl rfl rfl rfl rfl (ao_lenV Tryd.underlying26 rfl hslq) ?_ | refine al_gyes rfl rfl rfl rfl rfl (ao_lenV Tryd.underlying26 rfl hslp) ?_ | refine al_gyes rfl rfl rfl rfl rfl (ao_lenV Tryd.underlying26 rfl hslo) ?_
      refine al_gyes rfl rfl rfl rfl rfl (ao_eql rfl rfl) ?_
      refine al_opd rfl rfl rfl (ao_pickF rfl (v := .bool _) rfl) ?_
      refine al_nilT ?_
      refine aw_cond rfl (fun h12_ => ?_) (fun h12_ => ?_)
      · try simp only [nrm] at h12_
        first | done | omega | (exfalso; revert h12_; simp; (first | done | omega))
      try simp only [nrm] at h12_
      refine aw_skipT ?_
      refine aw_region ?_
      refine al_opd rfl rfl rfl (ao_mv (v := .slice _ _ _) rfl) ?_
      refine al_opd rfl rfl rfl (ao_mv (v := .slice _ _ _) rfl) ?_
      refine al_opd rfl rfl rfl (ao_mv (v := .int _ _) rfl) ?_
      first | refine al_opd rfl rfl rfl (ao_indexAddrS Tryd.underlying26 Tryd.sizeOf37 rfl rfl (by exact IXp) (by exact IXp)) ?_ | refine al_opd rfl rfl rfl (ao_indexV Tryd.underlying26 Tryd.sizeOf37 rfl rfl hsl0 (by exact IXp) (by exact IXp)) ?_ | refine al_opd rfl rfl rfl (ao_indexV Tryd.underlying26 Tryd.sizeOf37 rfl rfl hsl1 (by exact IXp) (by exact IXp)) ?_ | refine al_opd rfl rfl rfl (ao_indexV Tryd.underlying26 Tryd.sizeOf37 rfl rfl hslq (by exact IXp) (by exact IXp)) ?_ | refine al_opd rfl rfl rfl (ao_indexV Tryd.underlying26 Tryd.sizeOf37 rfl rfl hslp (by exact IXp) (by exact IXp)) ?_ | refine al_opd rfl rfl rfl (ao_indexV Tryd.underlying26 Tryd.sizeOf37 rfl rfl hslo (by exact IXp) (by exact IXp)) ?_
      first | refine al_opd rfl rfl rfl (ao_loada Tryd.isAgg37 Tryd.sizeOf37 rfl (by exact HLp) (by rfl) (by exact RFp)) ?_ | refine al_opd rfl rfl rfl (ao_loadsV (A := #[.int _ _, .int _ _]) Tryd.isAgg37 Tryd.sizeOf37 hsl0 rfl hP0 rfl (by decide)) ?_ | refine al_opd rfl rfl rfl (ao_loadsV (A := #[.int _ _, .int _ _]) Tryd.isAgg37 Tryd.sizeOf37 hsl0 rfl hP1 rfl (by decide)) ?_ | refine al_opd rfl rfl rfl (ao_loadsV (A := #[.int _ _, .int _ _]) Tryd.isAgg37 Tryd.sizeOf37 hsl0 rfl hQ0 rfl (by decide)) ?_ | refine al_opd rfl rfl rfl (ao_loadsV (A := #[.int _ _, .int _ _]) Tryd.isAgg37 Tryd.sizeOf37 hsl0 rfl hQ1 rfl (by decide)) ?_ | refine al_opd rfl rfl rfl (ao_loadsV (A := #[.int _ _, .int _ _]) Tryd.isAgg37 Tryd.sizeOf37 hsl0 rfl hxi rfl (by decide)) ?_ | refine al_opd rfl rfl rfl (ao_loadsV (A := #[.int _ _, .int _ _]) Tryd.isAgg37 Tryd.sizeOf37 hsl1 rfl hP0 rfl (by decide)) ?_ | refine al_opd rfl rfl rfl (ao_loadsV (A := #[.int _ _, .int _ _]) Tryd.isAgg37 Tryd.sizeOf37 hsl1 rfl hP1 rfl (by decide)) ?_ | refine al_opd rfl rfl rfl (ao_loadsV (A := #[.int _ _, .int _ _]) Tryd.isAgg37 Tryd.sizeOf37 hsl1 rfl hQ0 rfl (by decide)) ?_ | refine al_opd rfl rfl rfl (ao_loadsV (A := #[.int _ _, .int _ _]) Tryd.isAgg37 Tryd.sizeOf37 hsl1 rfl hQ1 rfl (by decide)) ?_ | refine al_opd rfl rfl rfl (ao_loadsV (A := #[.int _ _, .int _ _]) Tryd.isAgg37 Tryd.sizeOf37 hsl1 rfl hxi rfl (by decide)) ?_ | refine al_opd rfl rfl rfl (ao_loadsV (A := #[.int _ _, .int _ _]) Tryd.isAgg37 Tryd.sizeOf37 hslq rfl hP0 rfl (by decide)) ?_ | refine al_opd rfl rfl rfl (ao_loadsV (A := #[.int _ _, .int _ _]) Tryd.isAgg37 Tryd.sizeOf37 hslq rfl hP1 rfl (by decide)) ?_ | refine al_opd rfl rfl rfl (ao_loadsV (A := #[.int _ _, .int _ _]) Tryd.isAgg37 Tryd.sizeOf37 hslq rfl hQ0 rfl (by decide)) ?_ | refine al_opd rfl rfl rfl (ao_loadsV (A := #[.int _ _, .int _ _]) Tryd.isAgg37 Tryd.sizeOf37 hslq rfl hQ1 rfl (by decide)) ?_ | refine al_opd rfl rfl rfl (ao_loadsV (A := #[.int _ _, .int _ _]) Tryd.isAgg37 Tryd.sizeOf37 hslq rfl hxi rfl (by decide)) ?_ | refine al_opd rfl rfl rfl (ao_loadsV (A := #[.int _ _, .int _ _]) Tryd.isAgg37 Tryd.sizeOf37 hslp rfl hP0 rfl (by decide)) ?_ | refine al_opd rfl rfl rfl (ao_loadsV (A := #[.int _ _, .int _ _]) Tryd.isAgg37 Tryd.sizeOf37 hslp rfl hP1 rfl (by decide)) ?_ | refine al_opd rfl rfl rfl (ao_loadsV (A := #[.int _ _, .int _ _]) Tryd.isAgg37 Tryd.sizeOf37 hslp rfl hQ0 rfl (by decide)) ?_ | refine al_opd rfl rfl rfl (ao_loadsV (A := #[.int _ _, .int _ _]) Tryd.isAgg37 Tryd.sizeOf37 hslp rfl hQ1 rfl (by decide)) ?_ | refine al_opd rfl rfl rfl (ao_loadsV (A := #[.int _ _, .int _ _]) Tryd.isAgg37 Tryd.sizeOf37 hslp rfl hxi rfl (by decide)) ?_ | refine al_opd rfl rfl rfl (ao_loadsV (A := #[.int _ _, .int _ _]) Tryd.isAgg37 Tryd.sizeOf37 hslo rfl hP0 rfl (by decide)) ?_ | refine al_opd rfl rfl rfl (ao_loadsV (A := #[.int _ _, .int _ _]) Tryd.isAgg37 Tryd.sizeOf37 hslo rfl hP1 rfl (by decide)) ?_ | refine al_opd rfl rfl rfl (ao_loadsV (A := #[.int _ _, .int _ _]) Tryd.isAgg37 Tryd.sizeOf37 hslo rfl hQ0 rfl (by decide)) ?_ | refine al_opd rfl rfl rfl (ao_loadsV (A := #[.int _ _, .int _ _]) Tryd.isAgg37 Tryd.sizeOf37 hslo rfl hQ1 rfl (by decide)) ?_ | refine al_opd rfl rfl rfl (ao_loadsV (A := #[.int _ _, .int _ _]) Tryd.isAgg37 Tryd.sizeOf37 hslo rfl hxi rfl (by decide)) ?_
      refine al_opd rfl rfl rfl (ao_mv (v := .int _ _) rfl) ?_
      refine al_opd rfl rfl rfl (ao_calld (l01Next_c (s := posTo (at_ l 0) w i) (k := lt4 b)) Tryd.call27 rfl rfl) ?_
      refine al_opd rfl rfl rfl (ao_lit1 (v := .agg _) Tryd.underlying26 Tryd.sizeOf37 Tryd.zeroValue37 (by rfl) (by rfl) rfl rfl (by rfl) (by exact RFp)) ?_
      refine al_opd rfl rfl rfl (ao_appC Tryd.underlying26 ⟨_, Tryd.underlying26⟩ elem37 (by rfl) (by rfl) (by exact HLp) (by (rw [fl_len spot_len, ← hn]; omega)) (by exact SCp) (by first | rfl | simp [isOne]) (by exact BDp) (by exact BDp)) ?_
      refine al_opd rfl rfl rfl (ao_as (v := .slice _ _ _) rfl) ?_
      refine al_nilB ?_
      refine thenA_n ?_
      refine aw_region ?_
      refine al_opd rfl rfl rfl (ao_mv (v := .int _ _) rfl) ?_
      first | refine al_opd rfl rfl rfl ((ao_add rfl rfl).val (nw_i64 BDp BDp)) ?_ | refine al_opd rfl rfl rfl (ao_add rfl rfl) ?_
      refine al_opd rfl rfl rfl (ao_as (v := .int _ _) rfl) ?_
      refine al_nilT ?_
      refine ⟨_, ?_, _, rfl, i + 1, _, n + 1, _, by omega, rfl, by exact SMp, ?_, ?_, by exact HLp, by rw [path_succ, fl_snoc, pos_succ hb]; exact (by exact HLp), by rw [path_succ, List.length_append, ← hn]; rfl, Nat.le_succ _, by omega, fun j c hj hc => ?_, rfl, rfl, by rfl⟩
      · omega
      · exact LNp
      · exact LNp
      · rcases Nat.lt_or_ge j i with h9 | h9
        · exact hlv j c h9 hc
        · obtain rfl : j = i := by omega
          rw [hb] at hc; cases hc; omega
    · try simp only [nrm] at h10_
      have hil : i = l.length - 1 := by omega
      subst hil
      rw [hpath] at hkb hn
      subst hn
      refine aw_exit ?_
      refine thenA_x ?_
      refine thenA_x ?_
      refine blockA_hit ?_
      refine thenA_n ?_
      refine aw_seq ?_
      refine aw_seq ?_
      refine aw_region ?_
      refine al_opd rfl rfl rfl (ao_mv (v := .slice _ _ _) rfl) ?_
      refine al_opd rfl rfl rfl (ao_calld (l02Plain_c (l := l) (lb := qb) (c' := k) (b := true) (by exact HLp) hk (by omega) (fun i x h => inB_wf (hv.2 i x h)) (yes hv)) Tryd.call14 rfl rfl) ?_
      refine al_opd rfl rfl rfl (ao_not rfl) ?_
      refine al_nilT ?_
      refine aw_cond rfl (fun h13_ => ?_) (fun h13_ => ?_)
      · try simp only [nrm] at h13_
        first | done | omega | (exfalso; revert h13_; simp; (first | done | omega))
      try simp only [nrm] at h13_
      refine aw_skipT ?_
      refine aw_seq ?_
      refine aw_region ?_
      refine al_opd rfl rfl rfl (ao_mv (v := .slice _ _ _) rfl) ?_
      refine al_opd rfl rfl rfl (ao_as (v := .slice _ _ _) rfl) ?_
      refine al_opd rfl rfl rfl (ao_as (v := .int _ _) rfl) ?_
      refine al_nilT ?_
      refine aw_ret ?_
      refine ends2 rfl (rv_tmp (v := .slice _ _ _) rfl) (rv_tmp (v := .int _ _) rfl) ?_
      exact ⟨by exact SMp, qb, by omega, by exact HLp, fun ρ h => vr_tup2 (vr_sl h (by omega) (by omega)) (.int _ _)⟩

-- spec.ReadFile
theorem specRf11_c {t : ByteArray} {l : List Spot} {H : AHeap} (hsz : t.size ≤ 1048576) (hv : plainF l) (hq : fileTx l = t) (hl : l.length = 1) : ACd Tryd.prog 10 [.string t] H (.tuple #[.slice (some ⟨H.next, 0, none⟩) l.length (l.length + 1), .int .i64 0]) (H.push (.cells (fl spot l) 2)) := by
  obtain ⟨hPl, _, hP0⟩ := (file_words hv hq).resolve_right (fun q => by have := q.2.1; omega)
  obtain ⟨w, hw0⟩ : ∃ w : ByteArray, w = ⟨#[]⟩ := ⟨_, rfl⟩
  have hws : w.size = 0 := by rw [hw0]; rfl
  have hwd : w.data.toList = ls8 l := by rw [hw0, List.eq_nil_of_length_eq_zero (show (ls8 l).length = 0 by rw [ls8_len]; omega)]
  have hwl : w.size = l.length - 1 := by rw [ba_size, hwd, ls8_len]
  have hpath := path_back hv hwd
  have hv2 := hv.1.2.2
  have hv1 := hv.1.2.1
  have hQ := hd_pcs (at_inB hv)
  obtain ⟨p0, hp0⟩ : ∃ p0, p0 = ofL (hd8 l) := ⟨_, rfl⟩
  rw [← hp0] at hQ hP0
  obtain ⟨px, hpx⟩ : ∃ px, px = strOf [48 + (at_ l 0).x] := ⟨_, rfl⟩
  obtain ⟨py, hpy⟩ : ∃ py, py = strOf [48 + (at_ l 0).y] := ⟨_, rfl⟩
  rw [← hpx, ← hpy] at hQ
  have ⟨hQl, hQ0, hQ1⟩ := str2_at hQ
  have ⟨⟨x0, x9⟩, ⟨y0, y9⟩⟩ := at_inB hv
  have hN1 : num2 px (at_ l 0).x true := by rw [hpx]; exact num2_of x0 x9
  have hN2 : num2 py (at_ l 0).y true := by rw [hpy]; exact num2_of y0 y9
  have hs0 := pcs_size 32 t hP0
  have hPs := pcs_len 32 t
  have hQs := pcs_len 44 p0
  refine ac_gcs (vrl_fl spot_plain _) (ac_body Tryd.func10 rfl Tryd.ntmps10 rfl ?_)
  refine aw_seq ?_
  refine aw_region ?_
  refine al_opd rfl rfl rfl (ao_as (v := .slice _ _ _) rfl) ?_
  refine al_opd rfl rfl rfl (ao_as (v := .int _ _) rfl) ?_
  refine al_nilT ?_
  refine aw_seq ?_
  refine aw_region ?_
  refine al_opd rfl rfl rfl (ao_mv (v := .string _) rfl) ?_
  refine al_opd rfl rfl rfl (ao_calld (l01Split_c (t := t) (c := 32) (by omega)) Tryd.call24 rfl rfl) ?_
  have hsl0 : Sl (H.push (.cells (fl str1 (pcs 32 t)) 1)) str1 1 (.slice (some ⟨H.next, 0, none⟩) (pcs 32 t).length ((pcs 32 t).length + 1)) (pcs 32 t) := Sl.full str1_len (by exact HLp) rfl rfl rfl
  refine al_opd rfl rfl rfl (ao_as (v := .slice _ _ _) rfl) ?_
  refine al_nilT ?_
  refine aw_seq ?_
  refine aw_region ?_
  refine al_opd rfl rfl rfl (ao_mv (v := .slice _ _ _) rfl) ?_
  first | refine al_opd rfl rfl rfl (ao_indexAddrS Tryd.underlying50 Tryd.sizeOf9 rfl rfl (by exact IXp) (by exact IXp)) ?_ | refine al_opd rfl rfl rfl (ao_indexV Tryd.underlying50 Tryd.sizeOf9 rfl rfl hsl0 (by exact IXp) (by exact IXp)) ?_ | refine al_opd rfl rfl rfl (ao_indexV Tryd.underlying50 Tryd.sizeOf9 rfl rfl hsl1 (by exact IXp) (by exact IXp)) ?_ | refine al_opd rfl rfl rfl (ao_indexV Tryd.underlying50 Tryd.sizeOf9 rfl rfl hslq (by exact IXp) (by exact IXp)) ?_ | refine al_opd rfl rfl rfl (ao_indexV Tryd.underlying50 Tryd.sizeOf9 rfl rfl hslp (by exact IXp) (by exact IXp)) ?_ | refine al_opd rfl rfl rfl (ao_indexV Tryd.underlying50 Tryd.sizeOf9 rfl rfl hslo (by exact IXp) (by exact IXp)) ?_
  first | refine al_opd rfl rfl rfl (ao_load (v := .string _) Tryd.isAgg9 (by rfl) (by exact HLp) (by rfl) (by exact RFp)) ?_ | refine al_opd rfl rfl rfl (ao_loadV (j := 0) (u := .string _) Tryd.isAgg9 hsl0 rfl rfl hP0 rfl) ?_ | refine al_opd rfl rfl rfl (ao_loadV (j := 1) (u := .string _) Tryd.isAgg9 hsl0 rfl rfl hP0 rfl) ?_ | refine al_opd rfl rfl rfl (ao_loadV (j := 0) (u := .string _) Tryd.isAgg9 hsl0 rfl rfl hQ0 rfl) ?_ | refine al_opd rfl rfl rfl (ao_loadV (j := 1) (u := .string _) Tryd.isAgg9 hsl0 rfl rfl hQ0 rfl) ?_ | refine al_opd rfl rfl rfl (ao_loadV (j := 0) (u := .string _) Tryd.isAgg9 hsl0 rfl rfl hQ1 rfl) ?_ | refine al_opd rfl rfl rfl (ao_loadV (j := 1) (u := .string _) Tryd.isAgg9 hsl0 rfl rfl hQ1 rfl) ?_ | refine al_opd rfl rfl rfl (ao_loadV (j := 0) (u := .string _) Tryd.isAgg9 hsl0 rfl rfl hxi rfl) ?_ | refine al_opd rfl rfl rfl (ao_loadV (j := 1) (u := .string _) Tryd.isAgg9 hsl0 rfl rfl hxi rfl) ?_ | refine al_opd rfl rfl rfl (ao_loadV (j := 0) (u := .string _) Tryd.isAgg9 hsl1 rfl rfl hP0 rfl) ?_ | refine al_opd rfl rfl rfl (ao_loadV (j := 1) (u := .string _) Tryd.isAgg9 hsl1 rfl rfl hP0 rfl) ?_ | refine al_opd rfl rfl rfl (ao_loadV (j := 0) (u := .string _) Tryd.isAgg9 hsl1 rfl rfl hQ0 rfl) ?_ | refine al_opd rfl rfl rfl (ao_loadV (j := 1) (u := .string _) Tryd.isAgg9 hsl1 rfl rfl hQ0 rfl) ?_ | refine al_opd rfl rfl rfl (ao_loadV (j := 0) (u := .string _) Tryd.isAgg9 hsl1 rfl rfl hQ1 rfl) ?_ | refine al_opd rfl rfl rfl (ao_loadV (j := 1) (u := .string _) Tryd.isAgg9 hsl1 rfl rfl hQ1 rfl) ?_ | refine al_opd rfl rfl rfl (ao_loadV (j := 0) (u := .string _) Tryd.isAgg9 hsl1 rfl rfl hxi rfl) ?_ | refine al_opd rfl rfl rfl (ao_loadV (j := 1) (u := .string _) Tryd.isAgg9 hsl1 rfl rfl hxi rfl) ?_ | refine al_opd rfl rfl rfl (ao_loadV (j := 0) (u := .string _) Tryd.isAgg9 hslq rfl rfl hP0 rfl) ?_ | refine al_opd rfl rfl rfl (ao_loadV (j := 1) (u := .string _) Tryd.isAgg9 hslq rfl rfl hP0 rfl) ?_ | refine al_opd rfl rfl rfl (ao_loadV (j := 0) (u := .string _) Tryd.isAgg9 hslq rfl rfl hQ0 rfl) ?_ | refine al_opd rfl rfl rfl (ao_loadV (j := 1) (u := .string _) Tryd.isAgg9 hslq rfl rfl hQ0 rfl) ?_ | refine al_opd rfl rfl rfl (ao_loadV (j := 0) (u := .string _) Tryd.isAgg9 hslq rfl rfl hQ1 rfl) ?_ | refine al_opd rfl rfl rfl (ao_loadV (j := 1) (u := .string _) Tryd.isAgg9 hslq rfl rfl hQ1 rfl) ?_ | refine al_opd rfl rfl rfl (ao_loadV (j := 0) (u := .string _) Tryd.isAgg9 hslq rfl rfl hxi rfl) ?_ | refine al_opd rfl rfl rfl (ao_loadV (j := 1) (u := .string _) Tryd.isAgg9 hslq rfl rfl hxi rfl) ?_ | refine al_opd rfl rfl rfl (ao_loadV (j := 0) (u := .string _) Tryd.isAgg9 hslp rfl rfl hP0 rfl) ?_ | refine al_opd rfl rfl rfl (ao_loadV (j := 1) (u := .string _) Tryd.isAgg9 hslp rfl rfl hP0 rfl) ?_ | refine al_opd rfl rfl rfl (ao_loadV (j := 0) (u := .string _) Tryd.isAgg9 hslp rfl rfl hQ0 rfl) ?_ | refine al_opd rfl rfl rfl (ao_loadV (j := 1) (u := .string _) Tryd.isAgg9 hslp rfl rfl hQ0 rfl) ?_ | refine al_opd rfl rfl rfl (ao_loadV (j := 0) (u := .string _) Tryd.isAgg9 hslp rfl rfl hQ1 rfl) ?_ | refine al_opd rfl rfl rfl (ao_loadV (j := 1) (u := .string _) Tryd.isAgg9 hslp rfl rfl hQ1 rfl) ?_ | refine al_opd rfl rfl rfl (ao_loadV (j := 0) (u := .string _) Tryd.isAgg9 hslp rfl rfl hxi rfl) ?_ | refine al_opd rfl rfl rfl (ao_loadV (j := 1) (u := .string _) Tryd.isAgg9 hslp rfl rfl hxi rfl) ?_ | refine al_opd rfl rfl rfl (ao_loadV (j := 0) (u := .string _) Tryd.isAgg9 hslo rfl rfl hP0 rfl) ?_ | refine al_opd rfl rfl rfl (ao_loadV (j := 1) (u := .string _) Tryd.isAgg9 hslo rfl rfl hP0 rfl) ?_ | refine al_opd rfl rfl rfl (ao_loadV (j := 0) (u := .string _) Tryd.isAgg9 hslo rfl rfl hQ0 rfl) ?_ | refine al_opd rfl rfl rfl (ao_loadV (j := 1) (u := .string _) Tryd.isAgg9 hslo rfl rfl hQ0 rfl) ?_ | refine al_opd rfl rfl rfl (ao_loadV (j := 0) (u := .string _) Tryd.isAgg9 hslo rfl rfl hQ1 rfl) ?_ | refine al_opd rfl rfl rfl (ao_loadV (j := 1) (u := .string _) Tryd.isAgg9 hslo rfl rfl hQ1 rfl) ?_ | refine al_opd rfl rfl rfl (ao_loadV (j := 0) (u := .string _) Tryd.isAgg9 hslo rfl rfl hxi rfl) ?_ | refine al_opd rfl rfl rfl (ao_loadV (j := 1) (u := .string _) Tryd.isAgg9 hslo rfl rfl hxi rfl) ?_
  refine al_opd rfl rfl rfl (ao_calld (l01Split_c (t := p0) (c := 44) (by omega)) Tryd.call24 rfl rfl) ?_
  have hsl1 : Sl ((H.push (.cells (fl str1 (pcs 32 t)) 1)).push (.cells (fl str1 (pcs 44 p0)) 1)) str1 1 (.slice (some ⟨H.next, 0, none⟩) (pcs 32 t).length ((pcs 32 t).length + 1)) (pcs 32 t) := Sl.full str1_len (by exact HLp) rfl rfl rfl
  have hslq : Sl ((H.push (.cells (fl str1 (pcs 32 t)) 1)).push (.cells (fl str1 (pcs 44 p0)) 1)) str1 1 (.slice (some ⟨H.next + 1, 0, none⟩) (pcs 44 p0).length ((pcs 44 p0).length + 1)) (pcs 44 p0) := Sl.full str1_len (by exact HLp) rfl rfl rfl
  refine al_opd rfl rfl rfl (ao_as (v := .slice _ _ _) rfl) ?_
  refine al_nilT ?_
  refine aw_seq ?_
  refine aw_seq ?_
  refine aw_region ?_
  refine al_opd rfl rfl rfl (ao_mv (v := .slice _ _ _) rfl) ?_
  first | refine al_opd rfl rfl rfl (ao_lenS Tryd.underlying50 (by rfl)) ?_ | refine al_opd rfl rfl rfl (ao_lenN Tryd.underlying50 (by rfl)) ?_ | refine al_opd rfl rfl rfl (ao_lenV Tryd.underlying50 rfl hsl0) ?_ | refine al_opd rfl rfl rfl (ao_lenV Tryd.underlying50 rfl hsl1) ?_ | refine al_opd rfl rfl rfl (ao_lenV Tryd.underlying50 rfl hslq) ?_ | refine al_opd rfl rfl rfl (ao_lenV Tryd.underlying50 rfl hslp) ?_ | refine al_opd rfl rfl rfl (ao_lenV Tryd.underlying50 rfl hslo) ?_
  refine al_opd rfl rfl rfl (ao_gtr rfl rfl) ?_
  refine al_opd rfl rfl rfl (ao_mv (v := .bool _) rfl) ?_
  refine al_cases (d := 22) rfl (fun h1_ => ?_) (fun h1_ => ?_)
  · try simp only [nrm] at h1_
    first | done | omega | (exfalso; revert h1_; simp; (first | done | omega))
  try simp only [nrm] at h1_
  refine al_gyes rfl rfl rfl rfl rfl (ao_mv (v := .slice _ _ _) rfl) ?_
  first | refine al_gyes rfl rfl rfl rfl rfl (ao_lenS Tryd.underlying50 (by rfl)) ?_ | refine al_gyes rfl rfl rfl rfl rfl (ao_lenN Tryd.underlying50 (by rfl)) ?_ | refine al_gyes rfl rfl rfl rfl rfl (ao_lenV Tryd.underlying50 rfl hsl0) ?_ | refine al_gyes rfl rfl rfl rfl rfl (ao_lenV Tryd.underlying50 rfl hsl1) ?_ | refine al_gyes rfl rfl rfl rfl rfl (ao_lenV Tryd.underlying50 rfl hslq) ?_ | refine al_gyes rfl rfl rfl rfl rfl (ao_lenV Tryd.underlying50 rfl hslp) ?_ | refine al_gyes rfl rfl rfl rfl rfl (ao_lenV Tryd.underlying50 rfl hslo) ?_
  refine al_gyes rfl rfl rfl rfl rfl (ao_neq rfl rfl) ?_
  refine al_opd rfl rfl rfl (ao_pickF rfl (v := .bool _) rfl) ?_
  refine al_opd rfl rfl rfl (ao_mv (v := .bool _) rfl) ?_
  refine al_cases (d := 27) rfl (fun h2_ => ?_) (fun h2_ => ?_)
  · try simp only [nrm] at h2_
    first | done | omega | (exfalso; revert h2_; simp; (first | done | omega))
  try simp only [nrm] at h2_
  refine al_gyes rfl rfl rfl rfl rfl (ao_mv (v := .slice _ _ _) rfl) ?_
  first | refine al_gyes rfl rfl rfl rfl rfl (ao_lenS Tryd.underlying50 (by rfl)) ?_ | refine al_gyes rfl rfl rfl rfl rfl (ao_lenN Tryd.underlying50 (by rfl)) ?_ | refine al_gyes rfl rfl rfl rfl rfl (ao_lenV Tryd.underlying50 rfl hsl0) ?_ | refine al_gyes rfl rfl rfl rfl rfl (ao_lenV Tryd.underlying50 rfl hsl1) ?_ | refine al_gyes rfl rfl rfl rfl rfl (ao_lenV Tryd.underlying50 rfl hslq) ?_ | refine al_gyes rfl rfl rfl rfl rfl (ao_lenV Tryd.underlying50 rfl hslp) ?_ | refine al_gyes rfl rfl rfl rfl rfl (ao_lenV Tryd.underlying50 rfl hslo) ?_
  refine al_gyes rfl rfl rfl rfl rfl (ao_eql rfl rfl) ?_
  refine al_gyes rfl rfl rfl rfl rfl (ao_mv (v := .bool _) rfl) ?_
  refine al_cases (d := 31) rfl (fun h3_ => ?_) (fun h3_ => ?_)
  · try simp only [nrm] at h3_
    first | done | omega | (exfalso; revert h3_; simp; (first | done | omega))
  try simp only [nrm] at h3_
  refine al_gno rfl rfl rfl rfl rfl ?_
  refine al_gno rfl rfl rfl rfl rfl ?_
  refine al_gno rfl rfl rfl rfl rfl ?_
  refine al_gno rfl rfl rfl rfl rfl ?_
  refine al_gyes rfl rfl rfl rfl rfl (ao_pickF rfl (v := .bool _) rfl) ?_
  refine al_opd rfl rfl rfl (ao_pickF rfl (v := .bool _) rfl) ?_
  refine al_nilT ?_
  refine aw_condF (by rfl) ⟨_, rfl⟩ ?_
  refine aw_skipT ?_
  refine aw_seq ?_
  refine aw_region ?_
  refine al_opd rfl rfl rfl (ao_mv (v := .slice _ _ _) rfl) ?_
  first | refine al_opd rfl rfl rfl (ao_indexAddrS Tryd.underlying50 Tryd.sizeOf9 rfl rfl (by exact IXp) (by exact IXp)) ?_ | refine al_opd rfl rfl rfl (ao_indexV Tryd.underlying50 Tryd.sizeOf9 rfl rfl hsl0 (by exact IXp) (by exact IXp)) ?_ | refine al_opd rfl rfl rfl (ao_indexV Tryd.underlying50 Tryd.sizeOf9 rfl rfl hsl1 (by exact IXp) (by exact IXp)) ?_ | refine al_opd rfl rfl rfl (ao_indexV Tryd.underlying50 Tryd.sizeOf9 rfl rfl hslq (by exact IXp) (by exact IXp)) ?_ | refine al_opd rfl rfl rfl (ao_indexV Tryd.underlying50 Tryd.sizeOf9 rfl rfl hslp (by exact IXp) (by exact IXp)) ?_ | refine al_opd rfl rfl rfl (ao_indexV Tryd.underlying50 Tryd.sizeOf9 rfl rfl hslo (by exact IXp) (by exact IXp)) ?_
  first | refine al_opd rfl rfl rfl (ao_load (v := .string _) Tryd.isAgg9 (by rfl) (by exact HLp) (by rfl) (by exact RFp)) ?_ | refine al_opd rfl rfl rfl (ao_loadV (j := 0) (u := .string _) Tryd.isAgg9 hsl0 rfl rfl hP0 rfl) ?_ | refine al_opd rfl rfl rfl (ao_loadV (j := 1) (u := .string _) Tryd.isAgg9 hsl0 rfl rfl hP0 rfl) ?_ | refine al_opd rfl rfl rfl (ao_loadV (j := 0) (u := .string _) Tryd.isAgg9 hsl0 rfl rfl hQ0 rfl) ?_ | refine al_opd rfl rfl rfl (ao_loadV (j := 1) (u := .string _) Tryd.isAgg9 hsl0 rfl rfl hQ0 rfl) ?_ | refine al_opd rfl rfl rfl (ao_loadV (j := 0) (u := .string _) Tryd.isAgg9 hsl0 rfl rfl hQ1 rfl) ?_ | refine al_opd rfl rfl rfl (ao_loadV (j := 1) (u := .string _) Tryd.isAgg9 hsl0 rfl rfl hQ1 rfl) ?_ | refine al_opd rfl rfl rfl (ao_loadV (j := 0) (u := .string _) Tryd.isAgg9 hsl0 rfl rfl hxi rfl) ?_ | refine al_opd rfl rfl rfl (ao_loadV (j := 1) (u := .string _) Tryd.isAgg9 hsl0 rfl rfl hxi rfl) ?_ | refine al_opd rfl rfl rfl (ao_loadV (j := 0) (u := .string _) Tryd.isAgg9 hsl1 rfl rfl hP0 rfl) ?_ | refine al_opd rfl rfl rfl (ao_loadV (j := 1) (u := .string _) Tryd.isAgg9 hsl1 rfl rfl hP0 rfl) ?_ | refine al_opd rfl rfl rfl (ao_loadV (j := 0) (u := .string _) Tryd.isAgg9 hsl1 rfl rfl hQ0 rfl) ?_ | refine al_opd rfl rfl rfl (ao_loadV (j := 1) (u := .string _) Tryd.isAgg9 hsl1 rfl rfl hQ0 rfl) ?_ | refine al_opd rfl rfl rfl (ao_loadV (j := 0) (u := .string _) Tryd.isAgg9 hsl1 rfl rfl hQ1 rfl) ?_ | refine al_opd rfl rfl rfl (ao_loadV (j := 1) (u := .string _) Tryd.isAgg9 hsl1 rfl rfl hQ1 rfl) ?_ | refine al_opd rfl rfl rfl (ao_loadV (j := 0) (u := .string _) Tryd.isAgg9 hsl1 rfl rfl hxi rfl) ?_ | refine al_opd rfl rfl rfl (ao_loadV (j := 1) (u := .string _) Tryd.isAgg9 hsl1 rfl rfl hxi rfl) ?_ | refine al_opd rfl rfl rfl (ao_loadV (j := 0) (u := .string _) Tryd.isAgg9 hslq rfl rfl hP0 rfl) ?_ | refine al_opd rfl rfl rfl (ao_loadV (j := 1) (u := .string _) Tryd.isAgg9 hslq rfl rfl hP0 rfl) ?_ | refine al_opd rfl rfl rfl (ao_loadV (j := 0) (u := .string _) Tryd.isAgg9 hslq rfl rfl hQ0 rfl) ?_ | refine al_opd rfl rfl rfl (ao_loadV (j := 1) (u := .string _) Tryd.isAgg9 hslq rfl rfl hQ0 rfl) ?_ | refine al_opd rfl rfl rfl (ao_loadV (j := 0) (u := .string _) Tryd.isAgg9 hslq rfl rfl hQ1 rfl) ?_ | refine al_opd rfl rfl rfl (ao_loadV (j := 1) (u := .string _) Tryd.isAgg9 hslq rfl rfl hQ1 rfl) ?_ | refine al_opd rfl rfl rfl (ao_loadV (j := 0) (u := .string _) Tryd.isAgg9 hslq rfl rfl hxi rfl) ?_ | refine al_opd rfl rfl rfl (ao_loadV (j := 1) (u := .string _) Tryd.isAgg9 hslq rfl rfl hxi rfl) ?_ | refine al_opd rfl rfl rfl (ao_loadV (j := 0) (u := .string _) Tryd.isAgg9 hslp rfl rfl hP0 rfl) ?_ | refine al_opd rfl rfl rfl (ao_loadV (j := 1) (u := .string _) Tryd.isAgg9 hslp rfl rfl hP0 rfl) ?_ | refine al_opd rfl rfl rfl (ao_loadV (j := 0) (u := .string _) Tryd.isAgg9 hslp rfl rfl hQ0 rfl) ?_ | refine al_opd rfl rfl rfl (ao_loadV (j := 1) (u := .string _) Tryd.isAgg9 hslp rfl rfl hQ0 rfl) ?_ | refine al_opd rfl rfl rfl (ao_loadV (j := 0) (u := .string _) Tryd.isAgg9 hslp rfl rfl hQ1 rfl) ?_ | refine al_opd rfl rfl rfl (ao_loadV (j := 1) (u := .string _) Tryd.isAgg9 hslp rfl rfl hQ1 rfl) ?_ | refine al_opd rfl rfl rfl (ao_loadV (j := 0) (u := .string _) Tryd.isAgg9 hslp rfl rfl hxi rfl) ?_ | refine al_opd rfl rfl rfl (ao_loadV (j := 1) (u := .string _) Tryd.isAgg9 hslp rfl rfl hxi rfl) ?_ | refine al_opd rfl rfl rfl (ao_loadV (j := 0) (u := .string _) Tryd.isAgg9 hslo rfl rfl hP0 rfl) ?_ | refine al_opd rfl rfl rfl (ao_loadV (j := 1) (u := .string _) Tryd.isAgg9 hslo rfl rfl hP0 rfl) ?_ | refine al_opd rfl rfl rfl (ao_loadV (j := 0) (u := .string _) Tryd.isAgg9 hslo rfl rfl hQ0 rfl) ?_ | refine al_opd rfl rfl rfl (ao_loadV (j := 1) (u := .string _) Tryd.isAgg9 hslo rfl rfl hQ0 rfl) ?_ | refine al_opd rfl rfl rfl (ao_loadV (j := 0) (u := .string _) Tryd.isAgg9 hslo rfl rfl hQ1 rfl) ?_ | refine al_opd rfl rfl rfl (ao_loadV (j := 1) (u := .string _) Tryd.isAgg9 hslo rfl rfl hQ1 rfl) ?_ | refine al_opd rfl rfl rfl (ao_loadV (j := 0) (u := .string _) Tryd.isAgg9 hslo rfl rfl hxi rfl) ?_ | refine al_opd rfl rfl rfl (ao_loadV (j := 1) (u := .string _) Tryd.isAgg9 hslo rfl rfl hxi rfl) ?_
  refine al_opd rfl rfl rfl (ao_calld (l01NumX_c hN1) Tryd.call25 rfl rfl) ?_
  refine al_opd rfl rfl rfl (ao_mv (v := .tuple _) rfl) ?_
  refine al_opd rfl rfl rfl (ao_extract (v := .int _ _) rfl rfl) ?_
  refine al_opd rfl rfl rfl (ao_extract (v := .bool _) rfl rfl) ?_
  refine al_opd rfl rfl rfl (ao_as (v := .int _ _) rfl) ?_
  refine al_opd rfl rfl rfl (ao_as (v := .bool _) rfl) ?_
  refine al_nilT ?_
  refine aw_seq ?_
  refine aw_region ?_
  refine al_opd rfl rfl rfl (ao_mv (v := .slice _ _ _) rfl) ?_
  first | refine al_opd rfl rfl rfl (ao_indexAddrS Tryd.underlying50 Tryd.sizeOf9 rfl rfl (by exact IXp) (by exact IXp)) ?_ | refine al_opd rfl rfl rfl (ao_indexV Tryd.underlying50 Tryd.sizeOf9 rfl rfl hsl0 (by exact IXp) (by exact IXp)) ?_ | refine al_opd rfl rfl rfl (ao_indexV Tryd.underlying50 Tryd.sizeOf9 rfl rfl hsl1 (by exact IXp) (by exact IXp)) ?_ | refine al_opd rfl rfl rfl (ao_indexV Tryd.underlying50 Tryd.sizeOf9 rfl rfl hslq (by exact IXp) (by exact IXp)) ?_ | refine al_opd rfl rfl rfl (ao_indexV Tryd.underlying50 Tryd.sizeOf9 rfl rfl hslp (by exact IXp) (by exact IXp)) ?_ | refine al_opd rfl rfl rfl (ao_indexV Tryd.underlying50 Tryd.sizeOf9 rfl rfl hslo (by exact IXp) (by exact IXp)) ?_
  first | refine al_opd rfl rfl rfl (ao_load (v := .string _) Tryd.isAgg9 (by rfl) (by exact HLp) (by rfl) (by exact RFp)) ?_ | refine al_opd rfl rfl rfl (ao_loadV (j := 0) (u := .string _) Tryd.isAgg9 hsl0 rfl rfl hP0 rfl) ?_ | refine al_opd rfl rfl rfl (ao_loadV (j := 1) (u := .string _) Tryd.isAgg9 hsl0 rfl rfl hP0 rfl) ?_ | refine al_opd rfl rfl rfl (ao_loadV (j := 0) (u := .string _) Tryd.isAgg9 hsl0 rfl rfl hQ0 rfl) ?_ | refine al_opd rfl rfl rfl (ao_loadV (j := 1) (u := .string _) Tryd.isAgg9 hsl0 rfl rfl hQ0 rfl) ?_ | refine al_opd rfl rfl rfl (ao_loadV (j := 0) (u := .string _) Tryd.isAgg9 hsl0 rfl rfl hQ1 rfl) ?_ | refine al_opd rfl rfl rfl (ao_loadV (j := 1) (u := .string _) Tryd.isAgg9 hsl0 rfl rfl hQ1 rfl) ?_ | refine al_opd rfl rfl rfl (ao_loadV (j := 0) (u := .string _) Tryd.isAgg9 hsl0 rfl rfl hxi rfl) ?_ | refine al_opd rfl rfl rfl (ao_loadV (j := 1) (u := .string _) Tryd.isAgg9 hsl0 rfl rfl hxi rfl) ?_ | refine al_opd rfl rfl rfl (ao_loadV (j := 0) (u := .string _) Tryd.isAgg9 hsl1 rfl rfl hP0 rfl) ?_ | refine al_opd rfl rfl rfl (ao_loadV (j := 1) (u := .string _) Tryd.isAgg9 hsl1 rfl rfl hP0 rfl) ?_ | refine al_opd rfl rfl rfl (ao_loadV (j := 0) (u := .string _) Tryd.isAgg9 hsl1 rfl rfl hQ0 rfl) ?_ | refine al_opd rfl rfl rfl (ao_loadV (j := 1) (u := .string _) Tryd.isAgg9 hsl1 rfl rfl hQ0 rfl) ?_ | refine al_opd rfl rfl rfl (ao_loadV (j := 0) (u := .string _) Tryd.isAgg9 hsl1 rfl rfl hQ1 rfl) ?_ | refine al_opd rfl rfl rfl (ao_loadV (j := 1) (u := .string _) Tryd.isAgg9 hsl1 rfl rfl hQ1 rfl) ?_ | refine al_opd rfl rfl rfl (ao_loadV (j := 0) (u := .string _) Tryd.isAgg9 hsl1 rfl rfl hxi rfl) ?_ | refine al_opd rfl rfl rfl (ao_loadV (j := 1) (u := .string _) Tryd.isAgg9 hsl1 rfl rfl hxi rfl) ?_ | refine al_opd rfl rfl rfl (ao_loadV (j := 0) (u := .string _) Tryd.isAgg9 hslq rfl rfl hP0 rfl) ?_ | refine al_opd rfl rfl rfl (ao_loadV (j := 1) (u := .string _) Tryd.isAgg9 hslq rfl rfl hP0 rfl) ?_ | refine al_opd rfl rfl rfl (ao_loadV (j := 0) (u := .string _) Tryd.isAgg9 hslq rfl rfl hQ0 rfl) ?_ | refine al_opd rfl rfl rfl (ao_loadV (j := 1) (u := .string _) Tryd.isAgg9 hslq rfl rfl hQ0 rfl) ?_ | refine al_opd rfl rfl rfl (ao_loadV (j := 0) (u := .string _) Tryd.isAgg9 hslq rfl rfl hQ1 rfl) ?_ | refine al_opd rfl rfl rfl (ao_loadV (j := 1) (u := .string _) Tryd.isAgg9 hslq rfl rfl hQ1 rfl) ?_ | refine al_opd rfl rfl rfl (ao_loadV (j := 0) (u := .string _) Tryd.isAgg9 hslq rfl rfl hxi rfl) ?_ | refine al_opd rfl rfl rfl (ao_loadV (j := 1) (u := .string _) Tryd.isAgg9 hslq rfl rfl hxi rfl) ?_ | refine al_opd rfl rfl rfl (ao_loadV (j := 0) (u := .string _) Tryd.isAgg9 hslp rfl rfl hP0 rfl) ?_ | refine al_opd rfl rfl rfl (ao_loadV (j := 1) (u := .string _) Tryd.isAgg9 hslp rfl rfl hP0 rfl) ?_ | refine al_opd rfl rfl rfl (ao_loadV (j := 0) (u := .string _) Tryd.isAgg9 hslp rfl rfl hQ0 rfl) ?_ | refine al_opd rfl rfl rfl (ao_loadV (j := 1) (u := .string _) Tryd.isAgg9 hslp rfl rfl hQ0 rfl) ?_ | refine al_opd rfl rfl rfl (ao_loadV (j := 0) (u := .string _) Tryd.isAgg9 hslp rfl rfl hQ1 rfl) ?_ | refine al_opd rfl rfl rfl (ao_loadV (j := 1) (u := .string _) Tryd.isAgg9 hslp rfl rfl hQ1 rfl) ?_ | refine al_opd rfl rfl rfl (ao_loadV (j := 0) (u := .string _) Tryd.isAgg9 hslp rfl rfl hxi rfl) ?_ | refine al_opd rfl rfl rfl (ao_loadV (j := 1) (u := .string _) Tryd.isAgg9 hslp rfl rfl hxi rfl) ?_ | refine al_opd rfl rfl rfl (ao_loadV (j := 0) (u := .string _) Tryd.isAgg9 hslo rfl rfl hP0 rfl) ?_ | refine al_opd rfl rfl rfl (ao_loadV (j := 1) (u := .string _) Tryd.isAgg9 hslo rfl rfl hP0 rfl) ?_ | refine al_opd rfl rfl rfl (ao_loadV (j := 0) (u := .string _) Tryd.isAgg9 hslo rfl rfl hQ0 rfl) ?_ | refine al_opd rfl rfl rfl (ao_loadV (j := 1) (u := .string _) Tryd.isAgg9 hslo rfl rfl hQ0 rfl) ?_ | refine al_opd rfl rfl rfl (ao_loadV (j := 0) (u := .string _) Tryd.isAgg9 hslo rfl rfl hQ1 rfl) ?_ | refine al_opd rfl rfl rfl (ao_loadV (j := 1) (u := .string _) Tryd.isAgg9 hslo rfl rfl hQ1 rfl) ?_ | refine al_opd rfl rfl rfl (ao_loadV (j := 0) (u := .string _) Tryd.isAgg9 hslo rfl rfl hxi rfl) ?_ | refine al_opd rfl rfl rfl (ao_loadV (j := 1) (u := .string _) Tryd.isAgg9 hslo rfl rfl hxi rfl) ?_
  refine al_opd rfl rfl rfl (ao_calld (l01NumX_c hN2) Tryd.call25 rfl rfl) ?_
  refine al_opd rfl rfl rfl (ao_mv (v := .tuple _) rfl) ?_
  refine al_opd rfl rfl rfl (ao_extract (v := .int _ _) rfl rfl) ?_
  refine al_opd rfl rfl rfl (ao_extract (v := .bool _) rfl rfl) ?_
  refine al_opd rfl rfl rfl (ao_as (v := .int _ _) rfl) ?_
  refine al_opd rfl rfl rfl (ao_as (v := .bool _) rfl) ?_
  refine al_nilT ?_
  refine aw_seq ?_
  refine aw_seq ?_
  refine aw_region ?_
  refine al_opd rfl rfl rfl (ao_mv (v := .bool _) rfl) ?_
  refine al_opd rfl rfl rfl (ao_not rfl) ?_
  refine al_opd rfl rfl rfl (ao_mv (v := .bool _) rfl) ?_
  refine al_cases (d := 55) rfl (fun h4_ => ?_) (fun h4_ => ?_)
  · try simp only [nrm] at h4_
    first | done | omega | (exfalso; revert h4_; simp; (first | done | omega))
  try simp only [nrm] at h4_
  refine al_gyes rfl rfl rfl rfl rfl (ao_mv (v := .bool _) rfl) ?_
  refine al_gyes rfl rfl rfl rfl rfl (ao_not rfl) ?_
  refine al_opd rfl rfl rfl (ao_pickF rfl (v := .bool _) rfl) ?_
  refine al_opd rfl rfl rfl (ao_mv (v := .bool _) rfl) ?_
  refine al_cases (d := 59) rfl (fun h5_ => ?_) (fun h5_ => ?_)
  · try simp only [nrm] at h5_
    first | done | omega | (exfalso; revert h5_; simp; (first | done | omega))
  try simp only [nrm] at h5_
  refine al_gyes rfl rfl rfl rfl rfl (ao_mv (v := .int _ _) rfl) ?_
  refine al_gyes rfl rfl rfl rfl rfl (ao_geq rfl rfl) ?_
  refine al_opd rfl rfl rfl (ao_pickF rfl (v := .bool _) rfl) ?_
  refine al_opd rfl rfl rfl (ao_mv (v := .bool _) rfl) ?_
  refine al_cases (d := 63) rfl (fun h6_ => ?_) (fun h6_ => ?_)
  · try simp only [nrm] at h6_
    first | done | omega | (exfalso; revert h6_; simp; (first | done | omega))
  try simp only [nrm] at h6_
  refine al_gyes rfl rfl rfl rfl rfl (ao_mv (v := .int _ _) rfl) ?_
  refine al_gyes rfl rfl rfl rfl rfl (ao_geq rfl rfl) ?_
  refine al_opd rfl rfl rfl (ao_pickF rfl (v := .bool _) rfl) ?_
  refine al_nilT ?_
  refine aw_cond rfl (fun h7_ => ?_) (fun h7_ => ?_)
  · try simp only [nrm] at h7_
    first | done | omega | (exfalso; revert h7_; simp; (first | done | omega))
  try simp only [nrm] at h7_
  refine aw_skipT ?_
  refine aw_seq ?_
  refine aw_region ?_
  refine al_opd rfl rfl rfl (ao_mv (v := .int _ _) rfl) ?_
  first | refine al_opd rfl rfl rfl ((ao_conv ⟨_, Tryd.underlying2⟩ Tryd.underlying35 rfl).val (nw_i8 BDp BDp)) ?_ | refine al_opd rfl rfl rfl (ao_conv ⟨_, Tryd.underlying2⟩ Tryd.underlying35 rfl) ?_
  refine al_opd rfl rfl rfl (ao_mv (v := .int _ _) rfl) ?_
  first | refine al_opd rfl rfl rfl ((ao_conv ⟨_, Tryd.underlying2⟩ Tryd.underlying35 rfl).val (nw_i8 BDp BDp)) ?_ | refine al_opd rfl rfl rfl (ao_conv ⟨_, Tryd.underlying2⟩ Tryd.underlying35 rfl) ?_
  refine al_opd rfl rfl rfl (ao_build (A := #[.int .i8 (at_ l 0).x, .int .i8 (at_ l 0).y]) Tryd.zeroValue37 (by rfl) (by first | rfl | kernel_rfl) (by rfl) (by first | rfl | kernel_rfl)) ?_
  refine al_opd rfl rfl rfl (ao_lit1 (v := .agg _) Tryd.underlying26 Tryd.sizeOf37 Tryd.zeroValue37 (by rfl) (by rfl) rfl rfl (by rfl) (by exact RFp)) ?_
  refine al_opd rfl rfl rfl (ao_as (v := .slice _ _ _) rfl) ?_
  refine al_nilT ?_
  refine aw_seq ?_
  refine aw_seq ?_
  refine aw_region ?_
  refine al_opd rfl rfl rfl (ao_as (v := .int _ _) rfl) ?_
  refine al_nilT ?_
  refine aw_block ?_
  refine aw_loop (fun (gk : Nat) (fr : AFr) (G : AHeap) => ∃ get : Nat → Value, fr = ⟨115, get⟩ ∧ (∃ (i qb n k : Nat), i ≤ w.size ∧ gk = w.size - i ∧ Same H.next H G ∧ H.next + 2 ≤ qb ∧ qb < G.next ∧ G.blk H.next = some (.cells (fl str1 (pcs 32 t)) 1) ∧ G.blk qb = some (.cells (fl spot (pathTo (at_ l 0) w i)) 2) ∧ n = (pathTo (at_ l 0) w i).length ∧ n ≤ k ∧ i ≤ 11 ∧ (∀ (j : Nat) b, j < i → w[j]? = some b → 0 ≤ lt4 b) ∧ get 4 = .slice (some ⟨H.next, 0, none⟩) (pcs 32 t).length ((pcs 32 t).length + 1) ∧ get 10 = .slice (some ⟨qb, 0, none⟩) n k ∧ get 11 = .int .i64 i)) (w.size) ⟨_, rfl, ?_⟩ ?_
  · refine ⟨0, _, 1, _, Nat.zero_le _, rfl, by exact SMp, ?_, ?_, by exact HLp, by exact HLp, rfl, Nat.le_refl _, Nat.zero_le _, fun j b h => by omega, rfl, rfl, rfl⟩ <;> exact LNp
  · rintro gk fr G ⟨get, rfl, i, qb, n, k, hi, rfl, hG, hqb, hlt, hb0, hkb, hn, hk, h11, hlv, g4, g10, g11⟩
    have hni : n = i + 1 := by rw [hn, path_len]
    have hslp : Sl G str1 1 (.slice (some ⟨H.next, 0, none⟩) (pcs 32 t).length ((pcs 32 t).length + 1)) (pcs 32 t) := Sl.full str1_len hb0 rfl rfl rfl
    have hslo : Sl G spot 2 (.slice (some ⟨qb, 0, none⟩) n k) (pathTo (at_ l 0) w i) := Sl.full spot_len hkb rfl rfl hn
    have hxi := path_at (at_ l 0) w (Nat.le_refl i)
    refine aw_slot (d := 4) (v := .slice (some ⟨H.next, 0, none⟩) (pcs 32 t).length ((pcs 32 t).length + 1)) (by first | assumption | rfl) ?_
    refine aw_slot (d := 10) (v := .slice (some ⟨qb, 0, none⟩) n k) (by first | assumption | rfl) ?_
    refine aw_slot (d := 11) (v := .int .i64 i) (by first | assumption | rfl) ?_
    refine aw_seq ?_
    refine aw_seq ?_
    refine aw_region ?_
    refine al_opd rfl rfl rfl (ao_mv (v := .slice _ _ _) rfl) ?_
    first | refine al_opd rfl rfl rfl (ao_lenS Tryd.underlying50 (by rfl)) ?_ | refine al_opd rfl rfl rfl (ao_lenN Tryd.underlying50 (by rfl)) ?_ | refine al_opd rfl rfl rfl (ao_lenV Tryd.underlying50 rfl hsl0) ?_ | refine al_opd rfl rfl rfl (ao_lenV Tryd.underlying50 rfl hsl1) ?_ | refine al_opd rfl rfl rfl (ao_lenV Tryd.underlying50 rfl hslq) ?_ | refine al_opd rfl rfl rfl (ao_lenV Tryd.underlying50 rfl hslp) ?_ | refine al_opd rfl rfl rfl (ao_lenV Tryd.underlying50 rfl hslo) ?_
    refine al_opd rfl rfl rfl (ao_eql rfl rfl) ?_
    refine al_opd rfl rfl rfl (ao_mv (v := .bool _) rfl) ?_
    refine al_cases (d := 77) rfl (fun h8_ => ?_) (fun h8_ => ?_)
    · try simp only [nrm] at h8_
      first | done | omega | (exfalso; revert h8_; simp; (first | done | omega))
    try simp only [nrm] at h8_
    have hil : i = l.length - 1 := by omega
    subst hil
    rw [hpath] at hkb hn
    subst hn
    refine al_gno rfl rfl rfl rfl rfl ?_
    refine al_gno rfl rfl rfl rfl rfl ?_
    refine al_gno rfl rfl rfl rfl rfl ?_
    refine al_gno rfl rfl rfl rfl rfl ?_
    refine al_gno rfl rfl rfl rfl rfl ?_
    refine al_gno rfl rfl rfl rfl rfl ?_
    refine al_opd rfl rfl rfl (ao_pickF rfl (v := .bool _) rfl) ?_
    refine al_nilT ?_
    refine aw_condF (by rfl) ⟨_, rfl⟩ ?_
    refine aw_exit ?_
    refine thenA_x ?_
    refine thenA_x ?_
    refine blockA_hit ?_
    refine thenA_n ?_
    refine aw_seq ?_
    refine aw_seq ?_
    refine aw_region ?_
    refine al_opd rfl rfl rfl (ao_mv (v := .slice _ _ _) rfl) ?_
    refine al_opd rfl rfl rfl (ao_calld (l02Plain_c (l := l) (lb := qb) (c' := k) (b := true) (by exact HLp) hk (by omega) (fun i x h => inB_wf (hv.2 i x h)) (yes hv)) Tryd.call14 rfl rfl) ?_
    refine al_opd rfl rfl rfl (ao_not rfl) ?_
    refine al_nilT ?_
    refine aw_cond rfl (fun h9_ => ?_) (fun h9_ => ?_)
    · try simp only [nrm] at h9_
      first | done | omega | (exfalso; revert h9_; simp; (first | done | omega))
    try simp only [nrm] at h9_
    refine aw_skipT ?_
    refine aw_seq ?_
    refine aw_region ?_
    refine al_opd rfl rfl rfl (ao_mv (v := .slice _ _ _) rfl) ?_
    refine al_opd rfl rfl rfl (ao_as (v := .slice _ _ _) rfl) ?_
    refine al_opd rfl rfl rfl (ao_as (v := .int _ _) rfl) ?_
    refine al_nilT ?_
    refine aw_ret ?_
    refine ends2 rfl (rv_tmp (v := .slice _ _ _) rfl) (rv_tmp (v := .int _ _) rfl) ?_
    exact ⟨by exact SMp, qb, by omega, by exact HLp, fun ρ h => vr_tup2 (vr_sl h (by omega) (by omega)) (.int _ _)⟩

-- spec.ReadFile
theorem specRf02_c {t : ByteArray} {H : AHeap} (hsz : t.size ≤ 1048576) (hno : ∀ l, plainF l → fileTx l ≠ t) (hPl : (pcs 32 t).length = 2) : ACd Tryd.prog 10 [.string t] H (.tuple #[.slice (some ⟨H.next, 0, none⟩) 0 0, .int .i64 5]) (H.push (.cells (fl spot []) 2)) := by
  obtain ⟨p0, hP0⟩ := get_lt (show 0 < (pcs 32 t).length by omega)
  obtain ⟨w, hP1⟩ := get_lt (show 1 < (pcs 32 t).length by omega)
  have hs1 := pcs_size 32 t hP1
  have hs0 := pcs_size 32 t hP0
  have hPs := pcs_len 32 t
  have hQs := pcs_len 44 p0
  refine ac_gcs (vrl_fl spot_plain []) (ac_body Tryd.func10 rfl Tryd.ntmps10 rfl ?_)
  refine aw_seq ?_
  refine aw_region ?_
  refine al_opd rfl rfl rfl (ao_as (v := .slice _ _ _) rfl) ?_
  refine al_opd rfl rfl rfl (ao_as (v := .int _ _) rfl) ?_
  refine al_nilT ?_
  refine aw_seq ?_
  refine aw_region ?_
  refine al_opd rfl rfl rfl (ao_mv (v := .string _) rfl) ?_
  refine al_opd rfl rfl rfl (ao_calld (l01Split_c (t := t) (c := 32) (by omega)) Tryd.call24 rfl rfl) ?_
  have hsl0 : Sl (H.push (.cells (fl str1 (pcs 32 t)) 1)) str1 1 (.slice (some ⟨H.next, 0, none⟩) (pcs 32 t).length ((pcs 32 t).length + 1)) (pcs 32 t) := Sl.full str1_len (by exact HLp) rfl rfl rfl
  refine al_opd rfl rfl rfl (ao_as (v := .slice _ _ _) rfl) ?_
  refine al_nilT ?_
  refine aw_seq ?_
  refine aw_region ?_
  refine al_opd rfl rfl rfl (ao_mv (v := .slice _ _ _) rfl) ?_
  first | refine al_opd rfl rfl rfl (ao_indexAddrS Tryd.underlying50 Tryd.sizeOf9 rfl rfl (by exact IXp) (by exact IXp)) ?_ | refine al_opd rfl rfl rfl (ao_indexV Tryd.underlying50 Tryd.sizeOf9 rfl rfl hsl0 (by exact IXp) (by exact IXp)) ?_ | refine al_opd rfl rfl rfl (ao_indexV Tryd.underlying50 Tryd.sizeOf9 rfl rfl hsl1 (by exact IXp) (by exact IXp)) ?_ | refine al_opd rfl rfl rfl (ao_indexV Tryd.underlying50 Tryd.sizeOf9 rfl rfl hslq (by exact IXp) (by exact IXp)) ?_ | refine al_opd rfl rfl rfl (ao_indexV Tryd.underlying50 Tryd.sizeOf9 rfl rfl hslp (by exact IXp) (by exact IXp)) ?_ | refine al_opd rfl rfl rfl (ao_indexV Tryd.underlying50 Tryd.sizeOf9 rfl rfl hslo (by exact IXp) (by exact IXp)) ?_
  first | refine al_opd rfl rfl rfl (ao_load (v := .string _) Tryd.isAgg9 (by rfl) (by exact HLp) (by rfl) (by exact RFp)) ?_ | refine al_opd rfl rfl rfl (ao_loadV (j := 0) (u := .string _) Tryd.isAgg9 hsl0 rfl rfl hP0 rfl) ?_ | refine al_opd rfl rfl rfl (ao_loadV (j := 1) (u := .string _) Tryd.isAgg9 hsl0 rfl rfl hP0 rfl) ?_ | refine al_opd rfl rfl rfl (ao_loadV (j := 0) (u := .string _) Tryd.isAgg9 hsl0 rfl rfl hP1 rfl) ?_ | refine al_opd rfl rfl rfl (ao_loadV (j := 1) (u := .string _) Tryd.isAgg9 hsl0 rfl rfl hP1 rfl) ?_ | refine al_opd rfl rfl rfl (ao_loadV (j := 0) (u := .string _) Tryd.isAgg9 hsl0 rfl rfl hQ0 rfl) ?_ | refine al_opd rfl rfl rfl (ao_loadV (j := 1) (u := .string _) Tryd.isAgg9 hsl0 rfl rfl hQ0 rfl) ?_ | refine al_opd rfl rfl rfl (ao_loadV (j := 0) (u := .string _) Tryd.isAgg9 hsl0 rfl rfl hQ1 rfl) ?_ | refine al_opd rfl rfl rfl (ao_loadV (j := 1) (u := .string _) Tryd.isAgg9 hsl0 rfl rfl hQ1 rfl) ?_ | refine al_opd rfl rfl rfl (ao_loadV (j := 0) (u := .string _) Tryd.isAgg9 hsl0 rfl rfl hxi rfl) ?_ | refine al_opd rfl rfl rfl (ao_loadV (j := 1) (u := .string _) Tryd.isAgg9 hsl0 rfl rfl hxi rfl) ?_ | refine al_opd rfl rfl rfl (ao_loadV (j := 0) (u := .string _) Tryd.isAgg9 hsl1 rfl rfl hP0 rfl) ?_ | refine al_opd rfl rfl rfl (ao_loadV (j := 1) (u := .string _) Tryd.isAgg9 hsl1 rfl rfl hP0 rfl) ?_ | refine al_opd rfl rfl rfl (ao_loadV (j := 0) (u := .string _) Tryd.isAgg9 hsl1 rfl rfl hP1 rfl) ?_ | refine al_opd rfl rfl rfl (ao_loadV (j := 1) (u := .string _) Tryd.isAgg9 hsl1 rfl rfl hP1 rfl) ?_ | refine al_opd rfl rfl rfl (ao_loadV (j := 0) (u := .string _) Tryd.isAgg9 hsl1 rfl rfl hQ0 rfl) ?_ | refine al_opd rfl rfl rfl (ao_loadV (j := 1) (u := .string _) Tryd.isAgg9 hsl1 rfl rfl hQ0 rfl) ?_ | refine al_opd rfl rfl rfl (ao_loadV (j := 0) (u := .string _) Tryd.isAgg9 hsl1 rfl rfl hQ1 rfl) ?_ | refine al_opd rfl rfl rfl (ao_loadV (j := 1) (u := .string _) Tryd.isAgg9 hsl1 rfl rfl hQ1 rfl) ?_ | refine al_opd rfl rfl rfl (ao_loadV (j := 0) (u := .string _) Tryd.isAgg9 hsl1 rfl rfl hxi rfl) ?_ | refine al_opd rfl rfl rfl (ao_loadV (j := 1) (u := .string _) Tryd.isAgg9 hsl1 rfl rfl hxi rfl) ?_ | refine al_opd rfl rfl rfl (ao_loadV (j := 0) (u := .string _) Tryd.isAgg9 hslq rfl rfl hP0 rfl) ?_ | refine al_opd rfl rfl rfl (ao_loadV (j := 1) (u := .string _) Tryd.isAgg9 hslq rfl rfl hP0 rfl) ?_ | refine al_opd rfl rfl rfl (ao_loadV (j := 0) (u := .string _) Tryd.isAgg9 hslq rfl rfl hP1 rfl) ?_ | refine al_opd rfl rfl rfl (ao_loadV (j := 1) (u := .string _) Tryd.isAgg9 hslq rfl rfl hP1 rfl) ?_ | refine al_opd rfl rfl rfl (ao_loadV (j := 0) (u := .string _) Tryd.isAgg9 hslq rfl rfl hQ0 rfl) ?_ | refine al_opd rfl rfl rfl (ao_loadV (j := 1) (u := .string _) Tryd.isAgg9 hslq rfl rfl hQ0 rfl) ?_ | refine al_opd rfl rfl rfl (ao_loadV (j := 0) (u := .string _) Tryd.isAgg9 hslq rfl rfl hQ1 rfl) ?_ | refine al_opd rfl rfl rfl (ao_loadV (j := 1) (u := .string _) Tryd.isAgg9 hslq rfl rfl hQ1 rfl) ?_ | refine al_opd rfl rfl rfl (ao_loadV (j := 0) (u := .string _) Tryd.isAgg9 hslq rfl rfl hxi rfl) ?_ | refine al_opd rfl rfl rfl (ao_loadV (j := 1) (u := .string _) Tryd.isAgg9 hslq rfl rfl hxi rfl) ?_ | refine al_opd rfl rfl rfl (ao_loadV (j := 0) (u := .string _) Tryd.isAgg9 hslp rfl rfl hP0 rfl) ?_ | refine al_opd rfl rfl rfl (ao_loadV (j := 1) (u := .string _) Tryd.isAgg9 hslp rfl rfl hP0 rfl) ?_ | refine al_opd rfl rfl rfl (ao_loadV (j := 0) (u := .string _) Tryd.isAgg9 hslp rfl rfl hP1 rfl) ?_ | refine al_opd rfl rfl rfl (ao_loadV (j := 1) (u := .string _) Tryd.isAgg9 hslp rfl rfl hP1 rfl) ?_ | refine al_opd rfl rfl rfl (ao_loadV (j := 0) (u := .string _) Tryd.isAgg9 hslp rfl rfl hQ0 rfl) ?_ | refine al_opd rfl rfl rfl (ao_loadV (j := 1) (u := .string _) Tryd.isAgg9 hslp rfl rfl hQ0 rfl) ?_ | refine al_opd rfl rfl rfl (ao_loadV (j := 0) (u := .string _) Tryd.isAgg9 hslp rfl rfl hQ1 rfl) ?_ | refine al_opd rfl rfl rfl (ao_loadV (j := 1) (u := .string _) Tryd.isAgg9 hslp rfl rfl hQ1 rfl) ?_ | refine al_opd rfl rfl rfl (ao_loadV (j := 0) (u := .string _) Tryd.isAgg9 hslp rfl rfl hxi rfl) ?_ | refine al_opd rfl rfl rfl (ao_loadV (j := 1) (u := .string _) Tryd.isAgg9 hslp rfl rfl hxi rfl) ?_ | refine al_opd rfl rfl rfl (ao_loadV (j := 0) (u := .string _) Tryd.isAgg9 hslo rfl rfl hP0 rfl) ?_ | refine al_opd rfl rfl rfl (ao_loadV (j := 1) (u := .string _) Tryd.isAgg9 hslo rfl rfl hP0 rfl) ?_ | refine al_opd rfl rfl rfl (ao_loadV (j := 0) (u := .string _) Tryd.isAgg9 hslo rfl rfl hP1 rfl) ?_ | refine al_opd rfl rfl rfl (ao_loadV (j := 1) (u := .string _) Tryd.isAgg9 hslo rfl rfl hP1 rfl) ?_ | refine al_opd rfl rfl rfl (ao_loadV (j := 0) (u := .string _) Tryd.isAgg9 hslo rfl rfl hQ0 rfl) ?_ | refine al_opd rfl rfl rfl (ao_loadV (j := 1) (u := .string _) Tryd.isAgg9 hslo rfl rfl hQ0 rfl) ?_ | refine al_opd rfl rfl rfl (ao_loadV (j := 0) (u := .string _) Tryd.isAgg9 hslo rfl rfl hQ1 rfl) ?_ | refine al_opd rfl rfl rfl (ao_loadV (j := 1) (u := .string _) Tryd.isAgg9 hslo rfl rfl hQ1 rfl) ?_ | refine al_opd rfl rfl rfl (ao_loadV (j := 0) (u := .string _) Tryd.isAgg9 hslo rfl rfl hxi rfl) ?_ | refine al_opd rfl rfl rfl (ao_loadV (j := 1) (u := .string _) Tryd.isAgg9 hslo rfl rfl hxi rfl) ?_
  refine al_opd rfl rfl rfl (ao_calld (l01Split_c (t := p0) (c := 44) (by omega)) Tryd.call24 rfl rfl) ?_
  have hsl1 : Sl ((H.push (.cells (fl str1 (pcs 32 t)) 1)).push (.cells (fl str1 (pcs 44 p0)) 1)) str1 1 (.slice (some ⟨H.next, 0, none⟩) (pcs 32 t).length ((pcs 32 t).length + 1)) (pcs 32 t) := Sl.full str1_len (by exact HLp) rfl rfl rfl
  have hslq : Sl ((H.push (.cells (fl str1 (pcs 32 t)) 1)).push (.cells (fl str1 (pcs 44 p0)) 1)) str1 1 (.slice (some ⟨H.next + 1, 0, none⟩) (pcs 44 p0).length ((pcs 44 p0).length + 1)) (pcs 44 p0) := Sl.full str1_len (by exact HLp) rfl rfl rfl
  refine al_opd rfl rfl rfl (ao_as (v := .slice _ _ _) rfl) ?_
  refine al_nilT ?_
  refine aw_seq ?_
  refine aw_seq ?_
  refine aw_region ?_
  refine al_opd rfl rfl rfl (ao_mv (v := .slice _ _ _) rfl) ?_
  first | refine al_opd rfl rfl rfl (ao_lenS Tryd.underlying50 (by rfl)) ?_ | refine al_opd rfl rfl rfl (ao_lenN Tryd.underlying50 (by rfl)) ?_ | refine al_opd rfl rfl rfl (ao_lenV Tryd.underlying50 rfl hsl0) ?_ | refine al_opd rfl rfl rfl (ao_lenV Tryd.underlying50 rfl hsl1) ?_ | refine al_opd rfl rfl rfl (ao_lenV Tryd.underlying50 rfl hslq) ?_ | refine al_opd rfl rfl rfl (ao_lenV Tryd.underlying50 rfl hslp) ?_ | refine al_opd rfl rfl rfl (ao_lenV Tryd.underlying50 rfl hslo) ?_
  refine al_opd rfl rfl rfl (ao_gtr rfl rfl) ?_
  refine al_opd rfl rfl rfl (ao_mv (v := .bool _) rfl) ?_
  refine al_cases (d := 22) rfl (fun h1_ => ?_) (fun h1_ => ?_)
  · try simp only [nrm] at h1_
    first | done | omega | (exfalso; revert h1_; simp; (first | done | omega))
  try simp only [nrm] at h1_
  refine al_gyes rfl rfl rfl rfl rfl (ao_mv (v := .slice _ _ _) rfl) ?_
  first | refine al_gyes rfl rfl rfl rfl rfl (ao_lenS Tryd.underlying50 (by rfl)) ?_ | refine al_gyes rfl rfl rfl rfl rfl (ao_lenN Tryd.underlying50 (by rfl)) ?_ | refine al_gyes rfl rfl rfl rfl rfl (ao_lenV Tryd.underlying50 rfl hsl0) ?_ | refine al_gyes rfl rfl rfl rfl rfl (ao_lenV Tryd.underlying50 rfl hsl1) ?_ | refine al_gyes rfl rfl rfl rfl rfl (ao_lenV Tryd.underlying50 rfl hslq) ?_ | refine al_gyes rfl rfl rfl rfl rfl (ao_lenV Tryd.underlying50 rfl hslp) ?_ | refine al_gyes rfl rfl rfl rfl rfl (ao_lenV Tryd.underlying50 rfl hslo) ?_
  refine al_gyes rfl rfl rfl rfl rfl (ao_neq rfl rfl) ?_
  refine al_opd rfl rfl rfl (ao_pickF rfl (v := .bool _) rfl) ?_
  refine al_opd rfl rfl rfl (ao_mv (v := .bool _) rfl) ?_
  refine al_cases (d := 27) rfl (fun h2_ => ?_) (fun h2_ => ?_)
  · try simp only [nrm] at h2_
    refine al_gno rfl rfl rfl rfl rfl ?_
    refine al_gno rfl rfl rfl rfl rfl ?_
    refine al_gno rfl rfl rfl rfl rfl ?_
    refine al_gno rfl rfl rfl rfl rfl ?_
    refine al_gnu rfl rfl rfl rfl ?_
    refine al_gnu rfl rfl rfl rfl ?_
    refine al_gnu rfl rfl rfl rfl ?_
    refine al_gnu rfl rfl rfl rfl ?_
    refine al_gno rfl rfl rfl rfl rfl ?_
    refine al_opd rfl rfl rfl (ao_pickT rfl (v := .bool _) rfl) ?_
    refine al_nilT ?_
    refine aw_condT (by rfl) ⟨_, rfl⟩ ?_
    refine aw_seq ?_
    refine aw_region ?_
    refine al_opd rfl rfl rfl (ao_lit0 Tryd.underlying26 Tryd.sizeOf37 Tryd.zeroValue37 (by rfl) (by rfl) rfl) ?_
    refine al_opd rfl rfl rfl (ao_as (v := .slice _ _ _) rfl) ?_
    refine al_opd rfl rfl rfl (ao_as (v := .int _ _) rfl) ?_
    refine al_nilT ?_
    refine aw_ret ?_
    refine thenA_r ?_
    refine ends2 rfl (rv_tmp (v := .slice _ _ _) rfl) (rv_tmp (v := .int _ _) rfl) ?_
    exact ⟨by exact SMp, _, by exact LEp, by exact HLp, fun ρ h => vr_tup2 (vr_sl h (by omega) (by omega)) (.int _ _)⟩
  · try simp only [nrm] at h2_
    have hQl : (pcs 44 p0).length = 2 := by omega
    obtain ⟨px, hQ0⟩ := get_lt (show 0 < (pcs 44 p0).length by omega)
    obtain ⟨py, hQ1⟩ := get_lt (show 1 < (pcs 44 p0).length by omega)
    obtain ⟨x, o1, hN1⟩ := exists_num2 px
    obtain ⟨y, o2, hN2⟩ := exists_num2 py
    have ⟨x0, xb⟩ := num2_bnd hN1
    have ⟨y0, yb⟩ := num2_bnd hN2
    refine al_gyes rfl rfl rfl rfl rfl (ao_mv (v := .slice _ _ _) rfl) ?_
    first | refine al_gyes rfl rfl rfl rfl rfl (ao_lenS Tryd.underlying50 (by rfl)) ?_ | refine al_gyes rfl rfl rfl rfl rfl (ao_lenN Tryd.underlying50 (by rfl)) ?_ | refine al_gyes rfl rfl rfl rfl rfl (ao_lenV Tryd.underlying50 rfl hsl0) ?_ | refine al_gyes rfl rfl rfl rfl rfl (ao_lenV Tryd.underlying50 rfl hsl1) ?_ | refine al_gyes rfl rfl rfl rfl rfl (ao_lenV Tryd.underlying50 rfl hslq) ?_ | refine al_gyes rfl rfl rfl rfl rfl (ao_lenV Tryd.underlying50 rfl hslp) ?_ | refine al_gyes rfl rfl rfl rfl rfl (ao_lenV Tryd.underlying50 rfl hslo) ?_
    refine al_gyes rfl rfl rfl rfl rfl (ao_eql rfl rfl) ?_
    refine al_gyes rfl rfl rfl rfl rfl (ao_mv (v := .bool _) rfl) ?_
    refine al_cases (d := 31) rfl (fun h3_ => ?_) (fun h3_ => ?_)
    rotate_left
    · try simp only [nrm] at h3_
      first | done | omega | (exfalso; revert h3_; simp; (first | done | omega))
    try simp only [nrm] at h3_
    refine al_gyes rfl rfl rfl rfl rfl (ao_mv (v := .slice _ _ _) rfl) ?_
    first | refine al_gyes rfl rfl rfl rfl rfl (ao_indexAddrS Tryd.underlying50 Tryd.sizeOf9 rfl rfl (by exact IXp) (by exact IXp)) ?_ | refine al_gyes rfl rfl rfl rfl rfl (ao_indexV Tryd.underlying50 Tryd.sizeOf9 rfl rfl hsl0 (by exact IXp) (by exact IXp)) ?_ | refine al_gyes rfl rfl rfl rfl rfl (ao_indexV Tryd.underlying50 Tryd.sizeOf9 rfl rfl hsl1 (by exact IXp) (by exact IXp)) ?_ | refine al_gyes rfl rfl rfl rfl rfl (ao_indexV Tryd.underlying50 Tryd.sizeOf9 rfl rfl hslq (by exact IXp) (by exact IXp)) ?_ | refine al_gyes rfl rfl rfl rfl rfl (ao_indexV Tryd.underlying50 Tryd.sizeOf9 rfl rfl hslp (by exact IXp) (by exact IXp)) ?_ | refine al_gyes rfl rfl rfl rfl rfl (ao_indexV Tryd.underlying50 Tryd.sizeOf9 rfl rfl hslo (by exact IXp) (by exact IXp)) ?_
    first | refine al_gyes rfl rfl rfl rfl rfl (ao_load (v := .string _) Tryd.isAgg9 (by rfl) (by exact HLp) (by rfl) (by exact RFp)) ?_ | refine al_gyes rfl rfl rfl rfl rfl (ao_loadV (j := 0) (u := .string _) Tryd.isAgg9 hsl0 rfl rfl hP0 rfl) ?_ | refine al_gyes rfl rfl rfl rfl rfl (ao_loadV (j := 1) (u := .string _) Tryd.isAgg9 hsl0 rfl rfl hP0 rfl) ?_ | refine al_gyes rfl rfl rfl rfl rfl (ao_loadV (j := 0) (u := .string _) Tryd.isAgg9 hsl0 rfl rfl hP1 rfl) ?_ | refine al_gyes rfl rfl rfl rfl rfl (ao_loadV (j := 1) (u := .string _) Tryd.isAgg9 hsl0 rfl rfl hP1 rfl) ?_ | refine al_gyes rfl rfl rfl rfl rfl (ao_loadV (j := 0) (u := .string _) Tryd.isAgg9 hsl0 rfl rfl hQ0 rfl) ?_ | refine al_gyes rfl rfl rfl rfl rfl (ao_loadV (j := 1) (u := .string _) Tryd.isAgg9 hsl0 rfl rfl hQ0 rfl) ?_ | refine al_gyes rfl rfl rfl rfl rfl (ao_loadV (j := 0) (u := .string _) Tryd.isAgg9 hsl0 rfl rfl hQ1 rfl) ?_ | refine al_gyes rfl rfl rfl rfl rfl (ao_loadV (j := 1) (u := .string _) Tryd.isAgg9 hsl0 rfl rfl hQ1 rfl) ?_ | refine al_gyes rfl rfl rfl rfl rfl (ao_loadV (j := 0) (u := .string _) Tryd.isAgg9 hsl0 rfl rfl hxi rfl) ?_ | refine al_gyes rfl rfl rfl rfl rfl (ao_loadV (j := 1) (u := .string _) Tryd.isAgg9 hsl0 rfl rfl hxi rfl) ?_ | refine al_gyes rfl rfl rfl rfl rfl (ao_loadV (j := 0) (u := .string _) Tryd.isAgg9 hsl1 rfl rfl hP0 rfl) ?_ | refine al_gyes rfl rfl rfl rfl rfl (ao_loadV (j := 1) (u := .string _) Tryd.isAgg9 hsl1 rfl rfl hP0 rfl) ?_ | refine al_gyes rfl rfl rfl rfl rfl (ao_loadV (j := 0) (u := .string _) Tryd.isAgg9 hsl1 rfl rfl hP1 rfl) ?_ | refine al_gyes rfl rfl rfl rfl rfl (ao_loadV (j := 1) (u := .string _) Tryd.isAgg9 hsl1 rfl rfl hP1 rfl) ?_ | refine al_gyes rfl rfl rfl rfl rfl (ao_loadV (j := 0) (u := .string _) Tryd.isAgg9 hsl1 rfl rfl hQ0 rfl) ?_ | refine al_gyes rfl rfl rfl rfl rfl (ao_loadV (j := 1) (u := .string _) Tryd.isAgg9 hsl1 rfl rfl hQ0 rfl) ?_ | refine al_gyes rfl rfl rfl rfl rfl (ao_loadV (j := 0) (u := .string _) Tryd.isAgg9 hsl1 rfl rfl hQ1 rfl) ?_ | refine al_gyes rfl rfl rfl rfl rfl (ao_loadV (j := 1) (u := .string _) Tryd.isAgg9 hsl1 rfl rfl hQ1 rfl) ?_ | refine al_gyes rfl rfl rfl rfl rfl (ao_loadV (j := 0) (u := .string _) Tryd.isAgg9 hsl1 rfl rfl hxi rfl) ?_ | refine al_gyes rfl rfl rfl rfl rfl (ao_loadV (j := 1) (u := .string _) Tryd.isAgg9 hsl1 rfl rfl hxi rfl) ?_ | refine al_gyes rfl rfl rfl rfl rfl (ao_loadV (j := 0) (u := .string _) Tryd.isAgg9 hslq rfl rfl hP0 rfl) ?_ | refine al_gyes rfl rfl rfl rfl rfl (ao_loadV (j := 1) (u := .string _) Tryd.isAgg9 hslq rfl rfl hP0 rfl) ?_ | refine al_gyes rfl rfl rfl rfl rfl (ao_loadV (j := 0) (u := .string _) Tryd.isAgg9 hslq rfl rfl hP1 rfl) ?_ | refine al_gyes rfl rfl rfl rfl rfl (ao_loadV (j := 1) (u := .string _) Tryd.isAgg9 hslq rfl rfl hP1 rfl) ?_ | refine al_gyes rfl rfl rfl rfl rfl (ao_loadV (j := 0) (u := .string _) Tryd.isAgg9 hslq rfl rfl hQ0 rfl) ?_ | refine al_gyes rfl rfl rfl rfl rfl (ao_loadV (j := 1) (u := .string _) Tryd.isAgg9 hslq rfl rfl hQ0 rfl) ?_ | refine al_gyes rfl rfl rfl rfl rfl (ao_loadV (j := 0) (u := .string _) Tryd.isAgg9 hslq rfl rfl hQ1 rfl) ?_ | refine al_gyes rfl rfl rfl rfl rfl (ao_loadV (j := 1) (u := .string _) Tryd.isAgg9 hslq rfl rfl hQ1 rfl) ?_ | refine al_gyes rfl rfl rfl rfl rfl (ao_loadV (j := 0) (u := .string _) Tryd.isAgg9 hslq rfl rfl hxi rfl) ?_ | refine al_gyes rfl rfl rfl rfl rfl (ao_loadV (j := 1) (u := .string _) Tryd.isAgg9 hslq rfl rfl hxi rfl) ?_ | refine al_gyes rfl rfl rfl rfl rfl (ao_loadV (j := 0) (u := .string _) Tryd.isAgg9 hslp rfl rfl hP0 rfl) ?_ | refine al_gyes rfl rfl rfl rfl rfl (ao_loadV (j := 1) (u := .string _) Tryd.isAgg9 hslp rfl rfl hP0 rfl) ?_ | refine al_gyes rfl rfl rfl rfl rfl (ao_loadV (j := 0) (u := .string _) Tryd.isAgg9 hslp rfl rfl hP1 rfl) ?_ | refine al_gyes rfl rfl rfl rfl rfl (ao_loadV (j := 1) (u := .string _) Tryd.isAgg9 hslp rfl rfl hP1 rfl) ?_ | refine al_gyes rfl rfl rfl rfl rfl (ao_loadV (j := 0) (u := .string _) Tryd.isAgg9 hslp rfl rfl hQ0 rfl) ?_ | refine al_gyes rfl rfl rfl rfl rfl (ao_loadV (j := 1) (u := .string _) Tryd.isAgg9 hslp rfl rfl hQ0 rfl) ?_ | refine al_gyes rfl rfl rfl rfl rfl (ao_loadV (j := 0) (u := .string _) Tryd.isAgg9 hslp rfl rfl hQ1 rfl) ?_ | refine al_gyes rfl rfl rfl rfl rfl (ao_loadV (j := 1) (u := .string _) Tryd.isAgg9 hslp rfl rfl hQ1 rfl) ?_ | refine al_gyes rfl rfl rfl rfl rfl (ao_loadV (j := 0) (u := .string _) Tryd.isAgg9 hslp rfl rfl hxi rfl) ?_ | refine al_gyes rfl rfl rfl rfl rfl (ao_loadV (j := 1) (u := .string _) Tryd.isAgg9 hslp rfl rfl hxi rfl) ?_ | refine al_gyes rfl rfl rfl rfl rfl (ao_loadV (j := 0) (u := .string _) Tryd.isAgg9 hslo rfl rfl hP0 rfl) ?_ | refine al_gyes rfl rfl rfl rfl rfl (ao_loadV (j := 1) (u := .string _) Tryd.isAgg9 hslo rfl rfl hP0 rfl) ?_ | refine al_gyes rfl rfl rfl rfl rfl (ao_loadV (j := 0) (u := .string _) Tryd.isAgg9 hslo rfl rfl hP1 rfl) ?_ | refine al_gyes rfl rfl rfl rfl rfl (ao_loadV (j := 1) (u := .string _) Tryd.isAgg9 hslo rfl rfl hP1 rfl) ?_ | refine al_gyes rfl rfl rfl rfl rfl (ao_loadV (j := 0) (u := .string _) Tryd.isAgg9 hslo rfl rfl hQ0 rfl) ?_ | refine al_gyes rfl rfl rfl rfl rfl (ao_loadV (j := 1) (u := .string _) Tryd.isAgg9 hslo rfl rfl hQ0 rfl) ?_ | refine al_gyes rfl rfl rfl rfl rfl (ao_loadV (j := 0) (u := .string _) Tryd.isAgg9 hslo rfl rfl hQ1 rfl) ?_ | refine al_gyes rfl rfl rfl rfl rfl (ao_loadV (j := 1) (u := .string _) Tryd.isAgg9 hslo rfl rfl hQ1 rfl) ?_ | refine al_gyes rfl rfl rfl rfl rfl (ao_loadV (j := 0) (u := .string _) Tryd.isAgg9 hslo rfl rfl hxi rfl) ?_ | refine al_gyes rfl rfl rfl rfl rfl (ao_loadV (j := 1) (u := .string _) Tryd.isAgg9 hslo rfl rfl hxi rfl) ?_
    refine al_gyes rfl rfl rfl rfl rfl (ao_seql rfl rfl) ?_
    refine al_gyes rfl rfl rfl rfl rfl (ao_pickT rfl (v := .bool _) rfl) ?_
    refine al_opd rfl rfl rfl (ao_pickF rfl (v := .bool _) rfl) ?_
    refine al_nilT ?_
    refine aw_cond rfl (fun h4_ => ?_) (fun h4_ => ?_)
    · try simp only [nrm] at h4_
      refine aw_seq ?_
      refine aw_region ?_
      refine al_opd rfl rfl rfl (ao_lit0 Tryd.underlying26 Tryd.sizeOf37 Tryd.zeroValue37 (by rfl) (by rfl) rfl) ?_
      refine al_opd rfl rfl rfl (ao_as (v := .slice _ _ _) rfl) ?_
      refine al_opd rfl rfl rfl (ao_as (v := .int _ _) rfl) ?_
      refine al_nilT ?_
      refine aw_ret ?_
      refine thenA_r ?_
      refine ends2 rfl (rv_tmp (v := .slice _ _ _) rfl) (rv_tmp (v := .int _ _) rfl) ?_
      exact ⟨by exact SMp, _, by exact LEp, by exact HLp, fun ρ h => vr_tup2 (vr_sl h (by omega) (by omega)) (.int _ _)⟩
    · try simp only [nrm] at h4_
      refine aw_skipT ?_
      refine aw_seq ?_
      refine aw_region ?_
      refine al_opd rfl rfl rfl (ao_mv (v := .slice _ _ _) rfl) ?_
      first | refine al_opd rfl rfl rfl (ao_indexAddrS Tryd.underlying50 Tryd.sizeOf9 rfl rfl (by exact IXp) (by exact IXp)) ?_ | refine al_opd rfl rfl rfl (ao_indexV Tryd.underlying50 Tryd.sizeOf9 rfl rfl hsl0 (by exact IXp) (by exact IXp)) ?_ | refine al_opd rfl rfl rfl (ao_indexV Tryd.underlying50 Tryd.sizeOf9 rfl rfl hsl1 (by exact IXp) (by exact IXp)) ?_ | refine al_opd rfl rfl rfl (ao_indexV Tryd.underlying50 Tryd.sizeOf9 rfl rfl hslq (by exact IXp) (by exact IXp)) ?_ | refine al_opd rfl rfl rfl (ao_indexV Tryd.underlying50 Tryd.sizeOf9 rfl rfl hslp (by exact IXp) (by exact IXp)) ?_ | refine al_opd rfl rfl rfl (ao_indexV Tryd.underlying50 Tryd.sizeOf9 rfl rfl hslo (by exact IXp) (by exact IXp)) ?_
      first | refine al_opd rfl rfl rfl (ao_load (v := .string _) Tryd.isAgg9 (by rfl) (by exact HLp) (by rfl) (by exact RFp)) ?_ | refine al_opd rfl rfl rfl (ao_loadV (j := 0) (u := .string _) Tryd.isAgg9 hsl0 rfl rfl hP0 rfl) ?_ | refine al_opd rfl rfl rfl (ao_loadV (j := 1) (u := .string _) Tryd.isAgg9 hsl0 rfl rfl hP0 rfl) ?_ | refine al_opd rfl rfl rfl (ao_loadV (j := 0) (u := .string _) Tryd.isAgg9 hsl0 rfl rfl hP1 rfl) ?_ | refine al_opd rfl rfl rfl (ao_loadV (j := 1) (u := .string _) Tryd.isAgg9 hsl0 rfl rfl hP1 rfl) ?_ | refine al_opd rfl rfl rfl (ao_loadV (j := 0) (u := .string _) Tryd.isAgg9 hsl0 rfl rfl hQ0 rfl) ?_ | refine al_opd rfl rfl rfl (ao_loadV (j := 1) (u := .string _) Tryd.isAgg9 hsl0 rfl rfl hQ0 rfl) ?_ | refine al_opd rfl rfl rfl (ao_loadV (j := 0) (u := .string _) Tryd.isAgg9 hsl0 rfl rfl hQ1 rfl) ?_ | refine al_opd rfl rfl rfl (ao_loadV (j := 1) (u := .string _) Tryd.isAgg9 hsl0 rfl rfl hQ1 rfl) ?_ | refine al_opd rfl rfl rfl (ao_loadV (j := 0) (u := .string _) Tryd.isAgg9 hsl0 rfl rfl hxi rfl) ?_ | refine al_opd rfl rfl rfl (ao_loadV (j := 1) (u := .string _) Tryd.isAgg9 hsl0 rfl rfl hxi rfl) ?_ | refine al_opd rfl rfl rfl (ao_loadV (j := 0) (u := .string _) Tryd.isAgg9 hsl1 rfl rfl hP0 rfl) ?_ | refine al_opd rfl rfl rfl (ao_loadV (j := 1) (u := .string _) Tryd.isAgg9 hsl1 rfl rfl hP0 rfl) ?_ | refine al_opd rfl rfl rfl (ao_loadV (j := 0) (u := .string _) Tryd.isAgg9 hsl1 rfl rfl hP1 rfl) ?_ | refine al_opd rfl rfl rfl (ao_loadV (j := 1) (u := .string _) Tryd.isAgg9 hsl1 rfl rfl hP1 rfl) ?_ | refine al_opd rfl rfl rfl (ao_loadV (j := 0) (u := .string _) Tryd.isAgg9 hsl1 rfl rfl hQ0 rfl) ?_ | refine al_opd rfl rfl rfl (ao_loadV (j := 1) (u := .string _) Tryd.isAgg9 hsl1 rfl rfl hQ0 rfl) ?_ | refine al_opd rfl rfl rfl (ao_loadV (j := 0) (u := .string _) Tryd.isAgg9 hsl1 rfl rfl hQ1 rfl) ?_ | refine al_opd rfl rfl rfl (ao_loadV (j := 1) (u := .string _) Tryd.isAgg9 hsl1 rfl rfl hQ1 rfl) ?_ | refine al_opd rfl rfl rfl (ao_loadV (j := 0) (u := .string _) Tryd.isAgg9 hsl1 rfl rfl hxi rfl) ?_ | refine al_opd rfl rfl rfl (ao_loadV (j := 1) (u := .string _) Tryd.isAgg9 hsl1 rfl rfl hxi rfl) ?_ | refine al_opd rfl rfl rfl (ao_loadV (j := 0) (u := .string _) Tryd.isAgg9 hslq rfl rfl hP0 rfl) ?_ | refine al_opd rfl rfl rfl (ao_loadV (j := 1) (u := .string _) Tryd.isAgg9 hslq rfl rfl hP0 rfl) ?_ | refine al_opd rfl rfl rfl (ao_loadV (j := 0) (u := .string _) Tryd.isAgg9 hslq rfl rfl hP1 rfl) ?_ | refine al_opd rfl rfl rfl (ao_loadV (j := 1) (u := .string _) Tryd.isAgg9 hslq rfl rfl hP1 rfl) ?_ | refine al_opd rfl rfl rfl (ao_loadV (j := 0) (u := .string _) Tryd.isAgg9 hslq rfl rfl hQ0 rfl) ?_ | refine al_opd rfl rfl rfl (ao_loadV (j := 1) (u := .string _) Tryd.isAgg9 hslq rfl rfl hQ0 rfl) ?_ | refine al_opd rfl rfl rfl (ao_loadV (j := 0) (u := .string _) Tryd.isAgg9 hslq rfl rfl hQ1 rfl) ?_ | refine al_opd rfl rfl rfl (ao_loadV (j := 1) (u := .string _) Tryd.isAgg9 hslq rfl rfl hQ1 rfl) ?_ | refine al_opd rfl rfl rfl (ao_loadV (j := 0) (u := .string _) Tryd.isAgg9 hslq rfl rfl hxi rfl) ?_ | refine al_opd rfl rfl rfl (ao_loadV (j := 1) (u := .string _) Tryd.isAgg9 hslq rfl rfl hxi rfl) ?_ | refine al_opd rfl rfl rfl (ao_loadV (j := 0) (u := .string _) Tryd.isAgg9 hslp rfl rfl hP0 rfl) ?_ | refine al_opd rfl rfl rfl (ao_loadV (j := 1) (u := .string _) Tryd.isAgg9 hslp rfl rfl hP0 rfl) ?_ | refine al_opd rfl rfl rfl (ao_loadV (j := 0) (u := .string _) Tryd.isAgg9 hslp rfl rfl hP1 rfl) ?_ | refine al_opd rfl rfl rfl (ao_loadV (j := 1) (u := .string _) Tryd.isAgg9 hslp rfl rfl hP1 rfl) ?_ | refine al_opd rfl rfl rfl (ao_loadV (j := 0) (u := .string _) Tryd.isAgg9 hslp rfl rfl hQ0 rfl) ?_ | refine al_opd rfl rfl rfl (ao_loadV (j := 1) (u := .string _) Tryd.isAgg9 hslp rfl rfl hQ0 rfl) ?_ | refine al_opd rfl rfl rfl (ao_loadV (j := 0) (u := .string _) Tryd.isAgg9 hslp rfl rfl hQ1 rfl) ?_ | refine al_opd rfl rfl rfl (ao_loadV (j := 1) (u := .string _) Tryd.isAgg9 hslp rfl rfl hQ1 rfl) ?_ | refine al_opd rfl rfl rfl (ao_loadV (j := 0) (u := .string _) Tryd.isAgg9 hslp rfl rfl hxi rfl) ?_ | refine al_opd rfl rfl rfl (ao_loadV (j := 1) (u := .string _) Tryd.isAgg9 hslp rfl rfl hxi rfl) ?_ | refine al_opd rfl rfl rfl (ao_loadV (j := 0) (u := .string _) Tryd.isAgg9 hslo rfl rfl hP0 rfl) ?_ | refine al_opd rfl rfl rfl (ao_loadV (j := 1) (u := .string _) Tryd.isAgg9 hslo rfl rfl hP0 rfl) ?_ | refine al_opd rfl rfl rfl (ao_loadV (j := 0) (u := .string _) Tryd.isAgg9 hslo rfl rfl hP1 rfl) ?_ | refine al_opd rfl rfl rfl (ao_loadV (j := 1) (u := .string _) Tryd.isAgg9 hslo rfl rfl hP1 rfl) ?_ | refine al_opd rfl rfl rfl (ao_loadV (j := 0) (u := .string _) Tryd.isAgg9 hslo rfl rfl hQ0 rfl) ?_ | refine al_opd rfl rfl rfl (ao_loadV (j := 1) (u := .string _) Tryd.isAgg9 hslo rfl rfl hQ0 rfl) ?_ | refine al_opd rfl rfl rfl (ao_loadV (j := 0) (u := .string _) Tryd.isAgg9 hslo rfl rfl hQ1 rfl) ?_ | refine al_opd rfl rfl rfl (ao_loadV (j := 1) (u := .string _) Tryd.isAgg9 hslo rfl rfl hQ1 rfl) ?_ | refine al_opd rfl rfl rfl (ao_loadV (j := 0) (u := .string _) Tryd.isAgg9 hslo rfl rfl hxi rfl) ?_ | refine al_opd rfl rfl rfl (ao_loadV (j := 1) (u := .string _) Tryd.isAgg9 hslo rfl rfl hxi rfl) ?_
      refine al_opd rfl rfl rfl (ao_calld (l01NumX_c hN1) Tryd.call25 rfl rfl) ?_
      refine al_opd rfl rfl rfl (ao_mv (v := .tuple _) rfl) ?_
      refine al_opd rfl rfl rfl (ao_extract (v := .int _ _) rfl rfl) ?_
      refine al_opd rfl rfl rfl (ao_extract (v := .bool _) rfl rfl) ?_
      refine al_opd rfl rfl rfl (ao_as (v := .int _ _) rfl) ?_
      refine al_opd rfl rfl rfl (ao_as (v := .bool _) rfl) ?_
      refine al_nilT ?_
      refine aw_seq ?_
      refine aw_region ?_
      refine al_opd rfl rfl rfl (ao_mv (v := .slice _ _ _) rfl) ?_
      first | refine al_opd rfl rfl rfl (ao_indexAddrS Tryd.underlying50 Tryd.sizeOf9 rfl rfl (by exact IXp) (by exact IXp)) ?_ | refine al_opd rfl rfl rfl (ao_indexV Tryd.underlying50 Tryd.sizeOf9 rfl rfl hsl0 (by exact IXp) (by exact IXp)) ?_ | refine al_opd rfl rfl rfl (ao_indexV Tryd.underlying50 Tryd.sizeOf9 rfl rfl hsl1 (by exact IXp) (by exact IXp)) ?_ | refine al_opd rfl rfl rfl (ao_indexV Tryd.underlying50 Tryd.sizeOf9 rfl rfl hslq (by exact IXp) (by exact IXp)) ?_ | refine al_opd rfl rfl rfl (ao_indexV Tryd.underlying50 Tryd.sizeOf9 rfl rfl hslp (by exact IXp) (by exact IXp)) ?_ | refine al_opd rfl rfl rfl (ao_indexV Tryd.underlying50 Tryd.sizeOf9 rfl rfl hslo (by exact IXp) (by exact IXp)) ?_
      first | refine al_opd rfl rfl rfl (ao_load (v := .string _) Tryd.isAgg9 (by rfl) (by exact HLp) (by rfl) (by exact RFp)) ?_ | refine al_opd rfl rfl rfl (ao_loadV (j := 0) (u := .string _) Tryd.isAgg9 hsl0 rfl rfl hP0 rfl) ?_ | refine al_opd rfl rfl rfl (ao_loadV (j := 1) (u := .string _) Tryd.isAgg9 hsl0 rfl rfl hP0 rfl) ?_ | refine al_opd rfl rfl rfl (ao_loadV (j := 0) (u := .string _) Tryd.isAgg9 hsl0 rfl rfl hP1 rfl) ?_ | refine al_opd rfl rfl rfl (ao_loadV (j := 1) (u := .string _) Tryd.isAgg9 hsl0 rfl rfl hP1 rfl) ?_ | refine al_opd rfl rfl rfl (ao_loadV (j := 0) (u := .string _) Tryd.isAgg9 hsl0 rfl rfl hQ0 rfl) ?_ | refine al_opd rfl rfl rfl (ao_loadV (j := 1) (u := .string _) Tryd.isAgg9 hsl0 rfl rfl hQ0 rfl) ?_ | refine al_opd rfl rfl rfl (ao_loadV (j := 0) (u := .string _) Tryd.isAgg9 hsl0 rfl rfl hQ1 rfl) ?_ | refine al_opd rfl rfl rfl (ao_loadV (j := 1) (u := .string _) Tryd.isAgg9 hsl0 rfl rfl hQ1 rfl) ?_ | refine al_opd rfl rfl rfl (ao_loadV (j := 0) (u := .string _) Tryd.isAgg9 hsl0 rfl rfl hxi rfl) ?_ | refine al_opd rfl rfl rfl (ao_loadV (j := 1) (u := .string _) Tryd.isAgg9 hsl0 rfl rfl hxi rfl) ?_ | refine al_opd rfl rfl rfl (ao_loadV (j := 0) (u := .string _) Tryd.isAgg9 hsl1 rfl rfl hP0 rfl) ?_ | refine al_opd rfl rfl rfl (ao_loadV (j := 1) (u := .string _) Tryd.isAgg9 hsl1 rfl rfl hP0 rfl) ?_ | refine al_opd rfl rfl rfl (ao_loadV (j := 0) (u := .string _) Tryd.isAgg9 hsl1 rfl rfl hP1 rfl) ?_ | refine al_opd rfl rfl rfl (ao_loadV (j := 1) (u := .string _) Tryd.isAgg9 hsl1 rfl rfl hP1 rfl) ?_ | refine al_opd rfl rfl rfl (ao_loadV (j := 0) (u := .string _) Tryd.isAgg9 hsl1 rfl rfl hQ0 rfl) ?_ | refine al_opd rfl rfl rfl (ao_loadV (j := 1) (u := .string _) Tryd.isAgg9 hsl1 rfl rfl hQ0 rfl) ?_ | refine al_opd rfl rfl rfl (ao_loadV (j := 0) (u := .string _) Tryd.isAgg9 hsl1 rfl rfl hQ1 rfl) ?_ | refine al_opd rfl rfl rfl (ao_loadV (j := 1) (u := .string _) Tryd.isAgg9 hsl1 rfl rfl hQ1 rfl) ?_ | refine al_opd rfl rfl rfl (ao_loadV (j := 0) (u := .string _) Tryd.isAgg9 hsl1 rfl rfl hxi rfl) ?_ | refine al_opd rfl rfl rfl (ao_loadV (j := 1) (u := .string _) Tryd.isAgg9 hsl1 rfl rfl hxi rfl) ?_ | refine al_opd rfl rfl rfl (ao_loadV (j := 0) (u := .string _) Tryd.isAgg9 hslq rfl rfl hP0 rfl) ?_ | refine al_opd rfl rfl rfl (ao_loadV (j := 1) (u := .string _) Tryd.isAgg9 hslq rfl rfl hP0 rfl) ?_ | refine al_opd rfl rfl rfl (ao_loadV (j := 0) (u := .string _) Tryd.isAgg9 hslq rfl rfl hP1 rfl) ?_ | refine al_opd rfl rfl rfl (ao_loadV (j := 1) (u := .string _) Tryd.isAgg9 hslq rfl rfl hP1 rfl) ?_ | refine al_opd rfl rfl rfl (ao_loadV (j := 0) (u := .string _) Tryd.isAgg9 hslq rfl rfl hQ0 rfl) ?_ | refine al_opd rfl rfl rfl (ao_loadV (j := 1) (u := .string _) Tryd.isAgg9 hslq rfl rfl hQ0 rfl) ?_ | refine al_opd rfl rfl rfl (ao_loadV (j := 0) (u := .string _) Tryd.isAgg9 hslq rfl rfl hQ1 rfl) ?_ | refine al_opd rfl rfl rfl (ao_loadV (j := 1) (u := .string _) Tryd.isAgg9 hslq rfl rfl hQ1 rfl) ?_ | refine al_opd rfl rfl rfl (ao_loadV (j := 0) (u := .string _) Tryd.isAgg9 hslq rfl rfl hxi rfl) ?_ | refine al_opd rfl rfl rfl (ao_loadV (j := 1) (u := .string _) Tryd.isAgg9 hslq rfl rfl hxi rfl) ?_ | refine al_opd rfl rfl rfl (ao_loadV (j := 0) (u := .string _) Tryd.isAgg9 hslp rfl rfl hP0 rfl) ?_ | refine al_opd rfl rfl rfl (ao_loadV (j := 1) (u := .string _) Tryd.isAgg9 hslp rfl rfl hP0 rfl) ?_ | refine al_opd rfl rfl rfl (ao_loadV (j := 0) (u := .string _) Tryd.isAgg9 hslp rfl rfl hP1 rfl) ?_ | refine al_opd rfl rfl rfl (ao_loadV (j := 1) (u := .string _) Tryd.isAgg9 hslp rfl rfl hP1 rfl) ?_ | refine al_opd rfl rfl rfl (ao_loadV (j := 0) (u := .string _) Tryd.isAgg9 hslp rfl rfl hQ0 rfl) ?_ | refine al_opd rfl rfl rfl (ao_loadV (j := 1) (u := .string _) Tryd.isAgg9 hslp rfl rfl hQ0 rfl) ?_ | refine al_opd rfl rfl rfl (ao_loadV (j := 0) (u := .string _) Tryd.isAgg9 hslp rfl rfl hQ1 rfl) ?_ | refine al_opd rfl rfl rfl (ao_loadV (j := 1) (u := .string _) Tryd.isAgg9 hslp rfl rfl hQ1 rfl) ?_ | refine al_opd rfl rfl rfl (ao_loadV (j := 0) (u := .string _) Tryd.isAgg9 hslp rfl rfl hxi rfl) ?_ | refine al_opd rfl rfl rfl (ao_loadV (j := 1) (u := .string _) Tryd.isAgg9 hslp rfl rfl hxi rfl) ?_ | refine al_opd rfl rfl rfl (ao_loadV (j := 0) (u := .string _) Tryd.isAgg9 hslo rfl rfl hP0 rfl) ?_ | refine al_opd rfl rfl rfl (ao_loadV (j := 1) (u := .string _) Tryd.isAgg9 hslo rfl rfl hP0 rfl) ?_ | refine al_opd rfl rfl rfl (ao_loadV (j := 0) (u := .string _) Tryd.isAgg9 hslo rfl rfl hP1 rfl) ?_ | refine al_opd rfl rfl rfl (ao_loadV (j := 1) (u := .string _) Tryd.isAgg9 hslo rfl rfl hP1 rfl) ?_ | refine al_opd rfl rfl rfl (ao_loadV (j := 0) (u := .string _) Tryd.isAgg9 hslo rfl rfl hQ0 rfl) ?_ | refine al_opd rfl rfl rfl (ao_loadV (j := 1) (u := .string _) Tryd.isAgg9 hslo rfl rfl hQ0 rfl) ?_ | refine al_opd rfl rfl rfl (ao_loadV (j := 0) (u := .string _) Tryd.isAgg9 hslo rfl rfl hQ1 rfl) ?_ | refine al_opd rfl rfl rfl (ao_loadV (j := 1) (u := .string _) Tryd.isAgg9 hslo rfl rfl hQ1 rfl) ?_ | refine al_opd rfl rfl rfl (ao_loadV (j := 0) (u := .string _) Tryd.isAgg9 hslo rfl rfl hxi rfl) ?_ | refine al_opd rfl rfl rfl (ao_loadV (j := 1) (u := .string _) Tryd.isAgg9 hslo rfl rfl hxi rfl) ?_
      refine al_opd rfl rfl rfl (ao_calld (l01NumX_c hN2) Tryd.call25 rfl rfl) ?_
      refine al_opd rfl rfl rfl (ao_mv (v := .tuple _) rfl) ?_
      refine al_opd rfl rfl rfl (ao_extract (v := .int _ _) rfl rfl) ?_
      refine al_opd rfl rfl rfl (ao_extract (v := .bool _) rfl rfl) ?_
      refine al_opd rfl rfl rfl (ao_as (v := .int _ _) rfl) ?_
      refine al_opd rfl rfl rfl (ao_as (v := .bool _) rfl) ?_
      refine al_nilT ?_
      refine aw_seq ?_
      refine aw_seq ?_
      refine aw_region ?_
      refine al_opd rfl rfl rfl (ao_mv (v := .bool _) rfl) ?_
      refine al_opd rfl rfl rfl (ao_not rfl) ?_
      refine al_opd rfl rfl rfl (ao_mv (v := .bool _) rfl) ?_
      refine al_cases (d := 55) rfl (fun h5_ => ?_) (fun h5_ => ?_)
      · try simp only [nrm] at h5_
        refine al_gno rfl rfl rfl rfl rfl ?_
        refine al_gno rfl rfl rfl rfl rfl ?_
        refine al_opd rfl rfl rfl (ao_pickT rfl (v := .bool _) rfl) ?_
        refine al_opd rfl rfl rfl (ao_mv (v := .bool _) rfl) ?_
        refine al_gno rfl rfl rfl rfl rfl ?_
        refine al_gno rfl rfl rfl rfl rfl ?_
        refine al_opd rfl rfl rfl (ao_pickT rfl (v := .bool _) rfl) ?_
        refine al_opd rfl rfl rfl (ao_mv (v := .bool _) rfl) ?_
        refine al_gno rfl rfl rfl rfl rfl ?_
        refine al_gno rfl rfl rfl rfl rfl ?_
        refine al_opd rfl rfl rfl (ao_pickT rfl (v := .bool _) rfl) ?_
        refine al_nilT ?_
        refine aw_condT (by rfl) ⟨_, rfl⟩ ?_
        refine aw_seq ?_
        refine aw_region ?_
        refine al_opd rfl rfl rfl (ao_lit0 Tryd.underlying26 Tryd.sizeOf37 Tryd.zeroValue37 (by rfl) (by rfl) rfl) ?_
        refine al_opd rfl rfl rfl (ao_as (v := .slice _ _ _) rfl) ?_
        refine al_opd rfl rfl rfl (ao_as (v := .int _ _) rfl) ?_
        refine al_nilT ?_
        refine aw_ret ?_
        refine thenA_r ?_
        refine ends2 rfl (rv_tmp (v := .slice _ _ _) rfl) (rv_tmp (v := .int _ _) rfl) ?_
        exact ⟨by exact SMp, _, by exact LEp, by exact HLp, fun ρ h => vr_tup2 (vr_sl h (by omega) (by omega)) (.int _ _)⟩
      · try simp only [nrm] at h5_
        refine al_gyes rfl rfl rfl rfl rfl (ao_mv (v := .bool _) rfl) ?_
        refine al_gyes rfl rfl rfl rfl rfl (ao_not rfl) ?_
        refine al_opd rfl rfl rfl (ao_pickF rfl (v := .bool _) rfl) ?_
        refine al_opd rfl rfl rfl (ao_mv (v := .bool _) rfl) ?_
        refine al_cases (d := 59) rfl (fun h6_ => ?_) (fun h6_ => ?_)
        · try simp only [nrm] at h6_
          refine al_gno rfl rfl rfl rfl rfl ?_
          refine al_gno rfl rfl rfl rfl rfl ?_
          refine al_opd rfl rfl rfl (ao_pickT rfl (v := .bool _) rfl) ?_
          refine al_opd rfl rfl rfl (ao_mv (v := .bool _) rfl) ?_
          refine al_gno rfl rfl rfl rfl rfl ?_
          refine al_gno rfl rfl rfl rfl rfl ?_
          refine al_opd rfl rfl rfl (ao_pickT rfl (v := .bool _) rfl) ?_
          refine al_nilT ?_
          refine aw_condT (by rfl) ⟨_, rfl⟩ ?_
          refine aw_seq ?_
          refine aw_region ?_
          refine al_opd rfl rfl rfl (ao_lit0 Tryd.underlying26 Tryd.sizeOf37 Tryd.zeroValue37 (by rfl) (by rfl) rfl) ?_
          refine al_opd rfl rfl rfl (ao_as (v := .slice _ _ _) rfl) ?_
          refine al_opd rfl rfl rfl (ao_as (v := .int _ _) rfl) ?_
          refine al_nilT ?_
          refine aw_ret ?_
          refine thenA_r ?_
          refine ends2 rfl (rv_tmp (v := .slice _ _ _) rfl) (rv_tmp (v := .int _ _) rfl) ?_
          exact ⟨by exact SMp, _, by exact LEp, by exact HLp, fun ρ h => vr_tup2 (vr_sl h (by omega) (by omega)) (.int _ _)⟩
        · try simp only [nrm] at h6_
          refine al_gyes rfl rfl rfl rfl rfl (ao_mv (v := .int _ _) rfl) ?_
          refine al_gyes rfl rfl rfl rfl rfl (ao_geq rfl rfl) ?_
          refine al_opd rfl rfl rfl (ao_pickF rfl (v := .bool _) rfl) ?_
          refine al_opd rfl rfl rfl (ao_mv (v := .bool _) rfl) ?_
          refine al_cases (d := 63) rfl (fun h7_ => ?_) (fun h7_ => ?_)
          · try simp only [nrm] at h7_
            refine al_gno rfl rfl rfl rfl rfl ?_
            refine al_gno rfl rfl rfl rfl rfl ?_
            refine al_opd rfl rfl rfl (ao_pickT rfl (v := .bool _) rfl) ?_
            refine al_nilT ?_
            refine aw_condT (by rfl) ⟨_, rfl⟩ ?_
            refine aw_seq ?_
            refine aw_region ?_
            refine al_opd rfl rfl rfl (ao_lit0 Tryd.underlying26 Tryd.sizeOf37 Tryd.zeroValue37 (by rfl) (by rfl) rfl) ?_
            refine al_opd rfl rfl rfl (ao_as (v := .slice _ _ _) rfl) ?_
            refine al_opd rfl rfl rfl (ao_as (v := .int _ _) rfl) ?_
            refine al_nilT ?_
            refine aw_ret ?_
            refine thenA_r ?_
            refine ends2 rfl (rv_tmp (v := .slice _ _ _) rfl) (rv_tmp (v := .int _ _) rfl) ?_
            exact ⟨by exact SMp, _, by exact LEp, by exact HLp, fun ρ h => vr_tup2 (vr_sl h (by omega) (by omega)) (.int _ _)⟩
          · try simp only [nrm] at h7_
            refine al_gyes rfl rfl rfl rfl rfl (ao_mv (v := .int _ _) rfl) ?_
            refine al_gyes rfl rfl rfl rfl rfl (ao_geq rfl rfl) ?_
            refine al_opd rfl rfl rfl (ao_pickF rfl (v := .bool _) rfl) ?_
            refine al_nilT ?_
            refine aw_cond rfl (fun h8_ => ?_) (fun h8_ => ?_)
            · try simp only [nrm] at h8_
              refine aw_seq ?_
              refine aw_region ?_
              refine al_opd rfl rfl rfl (ao_lit0 Tryd.underlying26 Tryd.sizeOf37 Tryd.zeroValue37 (by rfl) (by rfl) rfl) ?_
              refine al_opd rfl rfl rfl (ao_as (v := .slice _ _ _) rfl) ?_
              refine al_opd rfl rfl rfl (ao_as (v := .int _ _) rfl) ?_
              refine al_nilT ?_
              refine aw_ret ?_
              refine thenA_r ?_
              refine ends2 rfl (rv_tmp (v := .slice _ _ _) rfl) (rv_tmp (v := .int _ _) rfl) ?_
              exact ⟨by exact SMp, _, by exact LEp, by exact HLp, fun ρ h => vr_tup2 (vr_sl h (by omega) (by omega)) (.int _ _)⟩
            · try simp only [nrm] at h8_
              have hdx := num2_dig (by rw [← h5_]; exact hN1) (show x < 10 by omega)
              have hdy := num2_dig (by rw [← h6_]; exact hN2) (show y < 10 by omega)
              refine aw_skipT ?_
              refine aw_seq ?_
              refine aw_region ?_
              refine al_opd rfl rfl rfl (ao_mv (v := .int _ _) rfl) ?_
              first | refine al_opd rfl rfl rfl ((ao_conv ⟨_, Tryd.underlying2⟩ Tryd.underlying35 rfl).val (nw_i8 BDp BDp)) ?_ | refine al_opd rfl rfl rfl (ao_conv ⟨_, Tryd.underlying2⟩ Tryd.underlying35 rfl) ?_
              refine al_opd rfl rfl rfl (ao_mv (v := .int _ _) rfl) ?_
              first | refine al_opd rfl rfl rfl ((ao_conv ⟨_, Tryd.underlying2⟩ Tryd.underlying35 rfl).val (nw_i8 BDp BDp)) ?_ | refine al_opd rfl rfl rfl (ao_conv ⟨_, Tryd.underlying2⟩ Tryd.underlying35 rfl) ?_
              refine al_opd rfl rfl rfl (ao_build (A := #[.int .i8 x, .int .i8 y]) Tryd.zeroValue37 (by rfl) (by first | rfl | kernel_rfl) (by rfl) (by first | rfl | kernel_rfl)) ?_
              refine al_opd rfl rfl rfl (ao_lit1 (v := .agg _) Tryd.underlying26 Tryd.sizeOf37 Tryd.zeroValue37 (by rfl) (by rfl) rfl rfl (by rfl) (by exact RFp)) ?_
              refine al_opd rfl rfl rfl (ao_as (v := .slice _ _ _) rfl) ?_
              refine al_nilT ?_
              refine aw_seq ?_
              refine aw_seq ?_
              refine aw_region ?_
              refine al_opd rfl rfl rfl (ao_as (v := .int _ _) rfl) ?_
              refine al_nilT ?_
              refine aw_block ?_
              refine aw_loop (fun (gk : Nat) (fr : AFr) (G : AHeap) => ∃ get : Nat → Value, fr = ⟨115, get⟩ ∧ (∃ (i qb n k : Nat), i ≤ w.size ∧ gk = w.size - i ∧ Same H.next H G ∧ H.next + 2 ≤ qb ∧ qb < G.next ∧ G.blk H.next = some (.cells (fl str1 (pcs 32 t)) 1) ∧ G.blk qb = some (.cells (fl spot (pathTo ⟨x, y⟩ w i)) 2) ∧ n = (pathTo ⟨x, y⟩ w i).length ∧ n ≤ k ∧ i ≤ 11 ∧ (∀ (j : Nat) b, j < i → w[j]? = some b → 0 ≤ lt4 b) ∧ get 4 = .slice (some ⟨H.next, 0, none⟩) (pcs 32 t).length ((pcs 32 t).length + 1) ∧ get 10 = .slice (some ⟨qb, 0, none⟩) n k ∧ get 11 = .int .i64 i)) (w.size) ⟨_, rfl, ?_⟩ ?_
              · refine ⟨0, _, 1, _, Nat.zero_le _, rfl, by exact SMp, ?_, ?_, by exact HLp, by exact HLp, rfl, Nat.le_refl _, Nat.zero_le _, fun j b h => by omega, rfl, rfl, rfl⟩ <;> exact LNp
              · rintro gk fr G ⟨get, rfl, i, qb, n, k, hi, rfl, hG, hqb, hlt, hb0, hkb, hn, hk, h11, hlv, g4, g10, g11⟩
                have hni : n = i + 1 := by rw [hn, path_len]
                have hslp : Sl G str1 1 (.slice (some ⟨H.next, 0, none⟩) (pcs 32 t).length ((pcs 32 t).length + 1)) (pcs 32 t) := Sl.full str1_len hb0 rfl rfl rfl
                have hslo : Sl G spot 2 (.slice (some ⟨qb, 0, none⟩) n k) (pathTo ⟨x, y⟩ w i) := Sl.full spot_len hkb rfl rfl hn
                have hxi := path_at ⟨x, y⟩ w (Nat.le_refl i)
                refine aw_slot (d := 4) (v := .slice (some ⟨H.next, 0, none⟩) (pcs 32 t).length ((pcs 32 t).length + 1)) (by first | assumption | rfl) ?_
                refine aw_slot (d := 10) (v := .slice (some ⟨qb, 0, none⟩) n k) (by first | assumption | rfl) ?_
                refine aw_slot (d := 11) (v := .int .i64 i) (by first | assumption | rfl) ?_
                refine aw_seq ?_
                refine aw_seq ?_
                refine aw_region ?_
                refine al_opd rfl rfl rfl (ao_mv (v := .slice _ _ _) rfl) ?_
                first | refine al_opd rfl rfl rfl (ao_lenS Tryd.underlying50 (by rfl)) ?_ | refine al_opd rfl rfl rfl (ao_lenN Tryd.underlying50 (by rfl)) ?_ | refine al_opd rfl rfl rfl (ao_lenV Tryd.underlying50 rfl hsl0) ?_ | refine al_opd rfl rfl rfl (ao_lenV Tryd.underlying50 rfl hsl1) ?_ | refine al_opd rfl rfl rfl (ao_lenV Tryd.underlying50 rfl hslq) ?_ | refine al_opd rfl rfl rfl (ao_lenV Tryd.underlying50 rfl hslp) ?_ | refine al_opd rfl rfl rfl (ao_lenV Tryd.underlying50 rfl hslo) ?_
                refine al_opd rfl rfl rfl (ao_eql rfl rfl) ?_
                refine al_opd rfl rfl rfl (ao_mv (v := .bool _) rfl) ?_
                refine al_cases (d := 77) rfl (fun h9_ => ?_) (fun h9_ => ?_)
                rotate_left
                · try simp only [nrm] at h9_
                  first | done | omega | (exfalso; revert h9_; simp; (first | done | omega))
                try simp only [nrm] at h9_
                refine al_gyes rfl rfl rfl rfl rfl (ao_mv (v := .int _ _) rfl) ?_
                refine al_gyes rfl rfl rfl rfl rfl (ao_mv (v := .slice _ _ _) rfl) ?_
                first | refine al_gyes rfl rfl rfl rfl rfl (ao_indexAddrS Tryd.underlying50 Tryd.sizeOf9 rfl rfl (by exact IXp) (by exact IXp)) ?_ | refine al_gyes rfl rfl rfl rfl rfl (ao_indexV Tryd.underlying50 Tryd.sizeOf9 rfl rfl hsl0 (by exact IXp) (by exact IXp)) ?_ | refine al_gyes rfl rfl rfl rfl rfl (ao_indexV Tryd.underlying50 Tryd.sizeOf9 rfl rfl hsl1 (by exact IXp) (by exact IXp)) ?_ | refine al_gyes rfl rfl rfl rfl rfl (ao_indexV Tryd.underlying50 Tryd.sizeOf9 rfl rfl hslq (by exact IXp) (by exact IXp)) ?_ | refine al_gyes rfl rfl rfl rfl rfl (ao_indexV Tryd.underlying50 Tryd.sizeOf9 rfl rfl hslp (by exact IXp) (by exact IXp)) ?_ | refine al_gyes rfl rfl rfl rfl rfl (ao_indexV Tryd.underlying50 Tryd.sizeOf9 rfl rfl hslo (by exact IXp) (by exact IXp)) ?_
                first | refine al_gyes rfl rfl rfl rfl rfl (ao_load (v := .string _) Tryd.isAgg9 (by rfl) (by exact HLp) (by rfl) (by exact RFp)) ?_ | refine al_gyes rfl rfl rfl rfl rfl (ao_loadV (j := 0) (u := .string _) Tryd.isAgg9 hsl0 rfl rfl hP0 rfl) ?_ | refine al_gyes rfl rfl rfl rfl rfl (ao_loadV (j := 1) (u := .string _) Tryd.isAgg9 hsl0 rfl rfl hP0 rfl) ?_ | refine al_gyes rfl rfl rfl rfl rfl (ao_loadV (j := 0) (u := .string _) Tryd.isAgg9 hsl0 rfl rfl hP1 rfl) ?_ | refine al_gyes rfl rfl rfl rfl rfl (ao_loadV (j := 1) (u := .string _) Tryd.isAgg9 hsl0 rfl rfl hP1 rfl) ?_ | refine al_gyes rfl rfl rfl rfl rfl (ao_loadV (j := 0) (u := .string _) Tryd.isAgg9 hsl0 rfl rfl hQ0 rfl) ?_ | refine al_gyes rfl rfl rfl rfl rfl (ao_loadV (j := 1) (u := .string _) Tryd.isAgg9 hsl0 rfl rfl hQ0 rfl) ?_ | refine al_gyes rfl rfl rfl rfl rfl (ao_loadV (j := 0) (u := .string _) Tryd.isAgg9 hsl0 rfl rfl hQ1 rfl) ?_ | refine al_gyes rfl rfl rfl rfl rfl (ao_loadV (j := 1) (u := .string _) Tryd.isAgg9 hsl0 rfl rfl hQ1 rfl) ?_ | refine al_gyes rfl rfl rfl rfl rfl (ao_loadV (j := 0) (u := .string _) Tryd.isAgg9 hsl0 rfl rfl hxi rfl) ?_ | refine al_gyes rfl rfl rfl rfl rfl (ao_loadV (j := 1) (u := .string _) Tryd.isAgg9 hsl0 rfl rfl hxi rfl) ?_ | refine al_gyes rfl rfl rfl rfl rfl (ao_loadV (j := 0) (u := .string _) Tryd.isAgg9 hsl1 rfl rfl hP0 rfl) ?_ | refine al_gyes rfl rfl rfl rfl rfl (ao_loadV (j := 1) (u := .string _) Tryd.isAgg9 hsl1 rfl rfl hP0 rfl) ?_ | refine al_gyes rfl rfl rfl rfl rfl (ao_loadV (j := 0) (u := .string _) Tryd.isAgg9 hsl1 rfl rfl hP1 rfl) ?_ | refine al_gyes rfl rfl rfl rfl rfl (ao_loadV (j := 1) (u := .string _) Tryd.isAgg9 hsl1 rfl rfl hP1 rfl) ?_ | refine al_gyes rfl rfl rfl rfl rfl (ao_loadV (j := 0) (u := .string _) Tryd.isAgg9 hsl1 rfl rfl hQ0 rfl) ?_ | refine al_gyes rfl rfl rfl rfl rfl (ao_loadV (j := 1) (u := .string _) Tryd.isAgg9 hsl1 rfl rfl hQ0 rfl) ?_ | refine al_gyes rfl rfl rfl rfl rfl (ao_loadV (j := 0) (u := .string _) Tryd.isAgg9 hsl1 rfl rfl hQ1 rfl) ?_ | refine al_gyes rfl rfl rfl rfl rfl (ao_loadV (j := 1) (u := .string _) Tryd.isAgg9 hsl1 rfl rfl hQ1 rfl) ?_ | refine al_gyes rfl rfl rfl rfl rfl (ao_loadV (j := 0) (u := .string _) Tryd.isAgg9 hsl1 rfl rfl hxi rfl) ?_ | refine al_gyes rfl rfl rfl rfl rfl (ao_loadV (j := 1) (u := .string _) Tryd.isAgg9 hsl1 rfl rfl hxi rfl) ?_ | refine al_gyes rfl rfl rfl rfl rfl (ao_loadV (j := 0) (u := .string _) Tryd.isAgg9 hslq rfl rfl hP0 rfl) ?_ | refine al_gyes rfl rfl rfl rfl rfl (ao_loadV (j := 1) (u := .string _) Tryd.isAgg9 hslq rfl rfl hP0 rfl) ?_ | refine al_gyes rfl rfl rfl rfl rfl (ao_loadV (j := 0) (u := .string _) Tryd.isAgg9 hslq rfl rfl hP1 rfl) ?_ | refine al_gyes rfl rfl rfl rfl rfl (ao_loadV (j := 1) (u := .string _) Tryd.isAgg9 hslq rfl rfl hP1 rfl) ?_ | refine al_gyes rfl rfl rfl rfl rfl (ao_loadV (j := 0) (u := .string _) Tryd.isAgg9 hslq rfl rfl hQ0 rfl) ?_ | refine al_gyes rfl rfl rfl rfl rfl (ao_loadV (j := 1) (u := .string _) Tryd.isAgg9 hslq rfl rfl hQ0 rfl) ?_ | refine al_gyes rfl rfl rfl rfl rfl (ao_loadV (j := 0) (u := .string _) Tryd.isAgg9 hslq rfl rfl hQ1 rfl) ?_ | refine al_gyes rfl rfl rfl rfl rfl (ao_loadV (j := 1) (u := .string _) Tryd.isAgg9 hslq rfl rfl hQ1 rfl) ?_ | refine al_gyes rfl rfl rfl rfl rfl (ao_loadV (j := 0) (u := .string _) Tryd.isAgg9 hslq rfl rfl hxi rfl) ?_ | refine al_gyes rfl rfl rfl rfl rfl (ao_loadV (j := 1) (u := .string _) Tryd.isAgg9 hslq rfl rfl hxi rfl) ?_ | refine al_gyes rfl rfl rfl rfl rfl (ao_loadV (j := 0) (u := .string _) Tryd.isAgg9 hslp rfl rfl hP0 rfl) ?_ | refine al_gyes rfl rfl rfl rfl rfl (ao_loadV (j := 1) (u := .string _) Tryd.isAgg9 hslp rfl rfl hP0 rfl) ?_ | refine al_gyes rfl rfl rfl rfl rfl (ao_loadV (j := 0) (u := .string _) Tryd.isAgg9 hslp rfl rfl hP1 rfl) ?_ | refine al_gyes rfl rfl rfl rfl rfl (ao_loadV (j := 1) (u := .string _) Tryd.isAgg9 hslp rfl rfl hP1 rfl) ?_ | refine al_gyes rfl rfl rfl rfl rfl (ao_loadV (j := 0) (u := .string _) Tryd.isAgg9 hslp rfl rfl hQ0 rfl) ?_ | refine al_gyes rfl rfl rfl rfl rfl (ao_loadV (j := 1) (u := .string _) Tryd.isAgg9 hslp rfl rfl hQ0 rfl) ?_ | refine al_gyes rfl rfl rfl rfl rfl (ao_loadV (j := 0) (u := .string _) Tryd.isAgg9 hslp rfl rfl hQ1 rfl) ?_ | refine al_gyes rfl rfl rfl rfl rfl (ao_loadV (j := 1) (u := .string _) Tryd.isAgg9 hslp rfl rfl hQ1 rfl) ?_ | refine al_gyes rfl rfl rfl rfl rfl (ao_loadV (j := 0) (u := .string _) Tryd.isAgg9 hslp rfl rfl hxi rfl) ?_ | refine al_gyes rfl rfl rfl rfl rfl (ao_loadV (j := 1) (u := .string _) Tryd.isAgg9 hslp rfl rfl hxi rfl) ?_ | refine al_gyes rfl rfl rfl rfl rfl (ao_loadV (j := 0) (u := .string _) Tryd.isAgg9 hslo rfl rfl hP0 rfl) ?_ | refine al_gyes rfl rfl rfl rfl rfl (ao_loadV (j := 1) (u := .string _) Tryd.isAgg9 hslo rfl rfl hP0 rfl) ?_ | refine al_gyes rfl rfl rfl rfl rfl (ao_loadV (j := 0) (u := .string _) Tryd.isAgg9 hslo rfl rfl hP1 rfl) ?_ | refine al_gyes rfl rfl rfl rfl rfl (ao_loadV (j := 1) (u := .string _) Tryd.isAgg9 hslo rfl rfl hP1 rfl) ?_ | refine al_gyes rfl rfl rfl rfl rfl (ao_loadV (j := 0) (u := .string _) Tryd.isAgg9 hslo rfl rfl hQ0 rfl) ?_ | refine al_gyes rfl rfl rfl rfl rfl (ao_loadV (j := 1) (u := .string _) Tryd.isAgg9 hslo rfl rfl hQ0 rfl) ?_ | refine al_gyes rfl rfl rfl rfl rfl (ao_loadV (j := 0) (u := .string _) Tryd.isAgg9 hslo rfl rfl hQ1 rfl) ?_ | refine al_gyes rfl rfl rfl rfl rfl (ao_loadV (j := 1) (u := .string _) Tryd.isAgg9 hslo rfl rfl hQ1 rfl) ?_ | refine al_gyes rfl rfl rfl rfl rfl (ao_loadV (j := 0) (u := .string _) Tryd.isAgg9 hslo rfl rfl hxi rfl) ?_ | refine al_gyes rfl rfl rfl rfl rfl (ao_loadV (j := 1) (u := .string _) Tryd.isAgg9 hslo rfl rfl hxi rfl) ?_
                refine al_gyes rfl rfl rfl rfl rfl (ao_lenStr Tryd.underlying9 (by rfl)) ?_
                refine al_gyes rfl rfl rfl rfl rfl (ao_lss rfl rfl) ?_
                refine al_opd rfl rfl rfl (ao_pickT rfl (v := .bool _) rfl) ?_
                refine al_nilT ?_
                refine aw_cond rfl (fun h10_ => ?_) (fun h10_ => ?_)
                · try simp only [nrm] at h10_
                  obtain ⟨b, hb⟩ := strAt (show i < w.size by omega)
                  have hlb := lt4_bnd b
                  refine aw_skipT ?_
                  refine aw_seq ?_
                  refine aw_block ?_
                  refine aw_seq ?_
                  refine aw_region ?_
                  refine al_opd rfl rfl rfl (ao_mv (v := .slice _ _ _) rfl) ?_
                  first | refine al_opd rfl rfl rfl (ao_indexAddrS Tryd.underlying50 Tryd.sizeOf9 rfl rfl (by exact IXp) (by exact IXp)) ?_ | refine al_opd rfl rfl rfl (ao_indexV Tryd.underlying50 Tryd.sizeOf9 rfl rfl hsl0 (by exact IXp) (by exact IXp)) ?_ | refine al_opd rfl rfl rfl (ao_indexV Tryd.underlying50 Tryd.sizeOf9 rfl rfl hsl1 (by exact IXp) (by exact IXp)) ?_ | refine al_opd rfl rfl rfl (ao_indexV Tryd.underlying50 Tryd.sizeOf9 rfl rfl hslq (by exact IXp) (by exact IXp)) ?_ | refine al_opd rfl rfl rfl (ao_indexV Tryd.underlying50 Tryd.sizeOf9 rfl rfl hslp (by exact IXp) (by exact IXp)) ?_ | refine al_opd rfl rfl rfl (ao_indexV Tryd.underlying50 Tryd.sizeOf9 rfl rfl hslo (by exact IXp) (by exact IXp)) ?_
                  first | refine al_opd rfl rfl rfl (ao_load (v := .string _) Tryd.isAgg9 (by rfl) (by exact HLp) (by rfl) (by exact RFp)) ?_ | refine al_opd rfl rfl rfl (ao_loadV (j := 0) (u := .string _) Tryd.isAgg9 hsl0 rfl rfl hP0 rfl) ?_ | refine al_opd rfl rfl rfl (ao_loadV (j := 1) (u := .string _) Tryd.isAgg9 hsl0 rfl rfl hP0 rfl) ?_ | refine al_opd rfl rfl rfl (ao_loadV (j := 0) (u := .string _) Tryd.isAgg9 hsl0 rfl rfl hP1 rfl) ?_ | refine al_opd rfl rfl rfl (ao_loadV (j := 1) (u := .string _) Tryd.isAgg9 hsl0 rfl rfl hP1 rfl) ?_ | refine al_opd rfl rfl rfl (ao_loadV (j := 0) (u := .string _) Tryd.isAgg9 hsl0 rfl rfl hQ0 rfl) ?_ | refine al_opd rfl rfl rfl (ao_loadV (j := 1) (u := .string _) Tryd.isAgg9 hsl0 rfl rfl hQ0 rfl) ?_ | refine al_opd rfl rfl rfl (ao_loadV (j := 0) (u := .string _) Tryd.isAgg9 hsl0 rfl rfl hQ1 rfl) ?_ | refine al_opd rfl rfl rfl (ao_loadV (j := 1) (u := .string _) Tryd.isAgg9 hsl0 rfl rfl hQ1 rfl) ?_ | refine al_opd rfl rfl rfl (ao_loadV (j := 0) (u := .string _) Tryd.isAgg9 hsl0 rfl rfl hxi rfl) ?_ | refine al_opd rfl rfl rfl (ao_loadV (j := 1) (u := .string _) Tryd.isAgg9 hsl0 rfl rfl hxi rfl) ?_ | refine al_opd rfl rfl rfl (ao_loadV (j := 0) (u := .string _) Tryd.isAgg9 hsl1 rfl rfl hP0 rfl) ?_ | refine al_opd rfl rfl rfl (ao_loadV (j := 1) (u := .string _) Tryd.isAgg9 hsl1 rfl rfl hP0 rfl) ?_ | refine al_opd rfl rfl rfl (ao_loadV (j := 0) (u := .string _) Tryd.isAgg9 hsl1 rfl rfl hP1 rfl) ?_ | refine al_opd rfl rfl rfl (ao_loadV (j := 1) (u := .string _) Tryd.isAgg9 hsl1 rfl rfl hP1 rfl) ?_ | refine al_opd rfl rfl rfl (ao_loadV (j := 0) (u := .string _) Tryd.isAgg9 hsl1 rfl rfl hQ0 rfl) ?_ | refine al_opd rfl rfl rfl (ao_loadV (j := 1) (u := .string _) Tryd.isAgg9 hsl1 rfl rfl hQ0 rfl) ?_ | refine al_opd rfl rfl rfl (ao_loadV (j := 0) (u := .string _) Tryd.isAgg9 hsl1 rfl rfl hQ1 rfl) ?_ | refine al_opd rfl rfl rfl (ao_loadV (j := 1) (u := .string _) Tryd.isAgg9 hsl1 rfl rfl hQ1 rfl) ?_ | refine al_opd rfl rfl rfl (ao_loadV (j := 0) (u := .string _) Tryd.isAgg9 hsl1 rfl rfl hxi rfl) ?_ | refine al_opd rfl rfl rfl (ao_loadV (j := 1) (u := .string _) Tryd.isAgg9 hsl1 rfl rfl hxi rfl) ?_ | refine al_opd rfl rfl rfl (ao_loadV (j := 0) (u := .string _) Tryd.isAgg9 hslq rfl rfl hP0 rfl) ?_ | refine al_opd rfl rfl rfl (ao_loadV (j := 1) (u := .string _) Tryd.isAgg9 hslq rfl rfl hP0 rfl) ?_ | refine al_opd rfl rfl rfl (ao_loadV (j := 0) (u := .string _) Tryd.isAgg9 hslq rfl rfl hP1 rfl) ?_ | refine al_opd rfl rfl rfl (ao_loadV (j := 1) (u := .string _) Tryd.isAgg9 hslq rfl rfl hP1 rfl) ?_ | refine al_opd rfl rfl rfl (ao_loadV (j := 0) (u := .string _) Tryd.isAgg9 hslq rfl rfl hQ0 rfl) ?_ | refine al_opd rfl rfl rfl (ao_loadV (j := 1) (u := .string _) Tryd.isAgg9 hslq rfl rfl hQ0 rfl) ?_ | refine al_opd rfl rfl rfl (ao_loadV (j := 0) (u := .string _) Tryd.isAgg9 hslq rfl rfl hQ1 rfl) ?_ | refine al_opd rfl rfl rfl (ao_loadV (j := 1) (u := .string _) Tryd.isAgg9 hslq rfl rfl hQ1 rfl) ?_ | refine al_opd rfl rfl rfl (ao_loadV (j := 0) (u := .string _) Tryd.isAgg9 hslq rfl rfl hxi rfl) ?_ | refine al_opd rfl rfl rfl (ao_loadV (j := 1) (u := .string _) Tryd.isAgg9 hslq rfl rfl hxi rfl) ?_ | refine al_opd rfl rfl rfl (ao_loadV (j := 0) (u := .string _) Tryd.isAgg9 hslp rfl rfl hP0 rfl) ?_ | refine al_opd rfl rfl rfl (ao_loadV (j := 1) (u := .string _) Tryd.isAgg9 hslp rfl rfl hP0 rfl) ?_ | refine al_opd rfl rfl rfl (ao_loadV (j := 0) (u := .string _) Tryd.isAgg9 hslp rfl rfl hP1 rfl) ?_ | refine al_opd rfl rfl rfl (ao_loadV (j := 1) (u := .string _) Tryd.isAgg9 hslp rfl rfl hP1 rfl) ?_ | refine al_opd rfl rfl rfl (ao_loadV (j := 0) (u := .string _) Tryd.isAgg9 hslp rfl rfl hQ0 rfl) ?_ | refine al_opd rfl rfl rfl (ao_loadV (j := 1) (u := .string _) Tryd.isAgg9 hslp rfl rfl hQ0 rfl) ?_ | refine al_opd rfl rfl rfl (ao_loadV (j := 0) (u := .string _) Tryd.isAgg9 hslp rfl rfl hQ1 rfl) ?_ | refine al_opd rfl rfl rfl (ao_loadV (j := 1) (u := .string _) Tryd.isAgg9 hslp rfl rfl hQ1 rfl) ?_ | refine al_opd rfl rfl rfl (ao_loadV (j := 0) (u := .string _) Tryd.isAgg9 hslp rfl rfl hxi rfl) ?_ | refine al_opd rfl rfl rfl (ao_loadV (j := 1) (u := .string _) Tryd.isAgg9 hslp rfl rfl hxi rfl) ?_ | refine al_opd rfl rfl rfl (ao_loadV (j := 0) (u := .string _) Tryd.isAgg9 hslo rfl rfl hP0 rfl) ?_ | refine al_opd rfl rfl rfl (ao_loadV (j := 1) (u := .string _) Tryd.isAgg9 hslo rfl rfl hP0 rfl) ?_ | refine al_opd rfl rfl rfl (ao_loadV (j := 0) (u := .string _) Tryd.isAgg9 hslo rfl rfl hP1 rfl) ?_ | refine al_opd rfl rfl rfl (ao_loadV (j := 1) (u := .string _) Tryd.isAgg9 hslo rfl rfl hP1 rfl) ?_ | refine al_opd rfl rfl rfl (ao_loadV (j := 0) (u := .string _) Tryd.isAgg9 hslo rfl rfl hQ0 rfl) ?_ | refine al_opd rfl rfl rfl (ao_loadV (j := 1) (u := .string _) Tryd.isAgg9 hslo rfl rfl hQ0 rfl) ?_ | refine al_opd rfl rfl rfl (ao_loadV (j := 0) (u := .string _) Tryd.isAgg9 hslo rfl rfl hQ1 rfl) ?_ | refine al_opd rfl rfl rfl (ao_loadV (j := 1) (u := .string _) Tryd.isAgg9 hslo rfl rfl hQ1 rfl) ?_ | refine al_opd rfl rfl rfl (ao_loadV (j := 0) (u := .string _) Tryd.isAgg9 hslo rfl rfl hxi rfl) ?_ | refine al_opd rfl rfl rfl (ao_loadV (j := 1) (u := .string _) Tryd.isAgg9 hslo rfl rfl hxi rfl) ?_
                  refine al_opd rfl rfl rfl (ao_mv (v := .int _ _) rfl) ?_
                  refine al_opd rfl rfl rfl (ao_indexStr Tryd.underlying9 (by rfl) (by rfl) (by first | rfl | omega) (by assumption)) ?_
                  refine al_opd rfl rfl rfl (ao_calld (l02Letter4_c (b := b)) Tryd.call26 rfl rfl) ?_
                  refine al_opd rfl rfl rfl (ao_as (v := .int _ _) rfl) ?_
                  refine al_nilT ?_
                  refine aw_seq ?_
                  refine aw_seq ?_
                  refine aw_region ?_
                  refine al_opd rfl rfl rfl (ao_mv (v := .int _ _) rfl) ?_
                  refine al_opd rfl rfl rfl (ao_lss rfl rfl) ?_
                  refine al_opd rfl rfl rfl (ao_mv (v := .bool _) rfl) ?_
                  refine al_cases (d := 95) rfl (fun h11_ => ?_) (fun h11_ => ?_)
                  · try simp only [nrm] at h11_
                    refine al_gno rfl rfl rfl rfl rfl ?_
                    refine al_gno rfl rfl rfl rfl rfl ?_
                    refine al_gno rfl rfl rfl rfl rfl ?_
                    refine al_opd rfl rfl rfl (ao_pickT rfl (v := .bool _) rfl) ?_
                    refine al_nilT ?_
                    refine aw_condT (by rfl) ⟨_, rfl⟩ ?_
                    refine aw_seq ?_
                    refine aw_region ?_
                    refine al_opd rfl rfl rfl (ao_lit0 Tryd.underlying26 Tryd.sizeOf37 Tryd.zeroValue37 (by rfl) (by rfl) rfl) ?_
                    refine al_opd rfl rfl rfl (ao_as (v := .slice _ _ _) rfl) ?_
                    refine al_opd rfl rfl rfl (ao_as (v := .int _ _) rfl) ?_
                    refine al_nilT ?_
                    refine aw_ret ?_
                    refine thenA_r ?_
                    refine blockA_r ?_
                    refine thenA_r ?_
                    refine thenA_r ?_
                    refine blockA_r ?_
                    refine thenA_r ?_
                    refine ends2 rfl (rv_tmp (v := .slice _ _ _) rfl) (rv_tmp (v := .int _ _) rfl) ?_
                    exact ⟨by exact SMp, _, by exact LEp, by exact HLp, fun ρ h => vr_tup2 (vr_sl h (by omega) (by omega)) (.int _ _)⟩
                  · try simp only [nrm] at h11_
                    refine al_gyes rfl rfl rfl rfl rfl (ao_mv (v := .slice _ _ _) rfl) ?_
                    first | refine al_gyes rfl rfl rfl rfl rfl (ao_lenS Tryd.underlying26 (by rfl)) ?_ | refine al_gyes rfl rfl rfl rfl rfl (ao_lenN Tryd.underlying26 (by rfl)) ?_ | refine al_gyes rfl rfl rfl rfl rfl (ao_lenV Tryd.underlying26 rfl hsl0) ?_ | refine al_gyes rfl rfl rfl rfl rfl (ao_lenV Tryd.underlying26 rfl hsl1) ?_ | refine al_gyes rfl rfl rfl rfl rfl (ao_lenV Tryd.underlying26 rfl hslq) ?_ | refine al_gyes rfl rfl rfl rfl rfl (ao_lenV Tryd.underlying26 rfl hslp) ?_ | refine al_gyes rfl rfl rfl rfl rfl (ao_lenV Tryd.underlying26 rfl hslo) ?_
                    refine al_gyes rfl rfl rfl rfl rfl (ao_eql rfl rfl) ?_
                    refine al_opd rfl rfl rfl (ao_pickF rfl (v := .bool _) rfl) ?_
                    refine al_nilT ?_
                    refine aw_cond rfl (fun h12_ => ?_) (fun h12_ => ?_)
                    · try simp only [nrm] at h12_
                      refine aw_seq ?_
                      refine aw_region ?_
                      refine al_opd rfl rfl rfl (ao_lit0 Tryd.underlying26 Tryd.sizeOf37 Tryd.zeroValue37 (by rfl) (by rfl) rfl) ?_
                      refine al_opd rfl rfl rfl (ao_as (v := .slice _ _ _) rfl) ?_
                      refine al_opd rfl rfl rfl (ao_as (v := .int _ _) rfl) ?_
                      refine al_nilT ?_
                      refine aw_ret ?_
                      refine thenA_r ?_
                      refine blockA_r ?_
                      refine thenA_r ?_
                      refine thenA_r ?_
                      refine blockA_r ?_
                      refine thenA_r ?_
                      refine ends2 rfl (rv_tmp (v := .slice _ _ _) rfl) (rv_tmp (v := .int _ _) rfl) ?_
                      exact ⟨by exact SMp, _, by exact LEp, by exact HLp, fun ρ h => vr_tup2 (vr_sl h (by omega) (by omega)) (.int _ _)⟩
                    · try simp only [nrm] at h12_
                      refine aw_skipT ?_
                      refine aw_region ?_
                      refine al_opd rfl rfl rfl (ao_mv (v := .slice _ _ _) rfl) ?_
                      refine al_opd rfl rfl rfl (ao_mv (v := .slice _ _ _) rfl) ?_
                      refine al_opd rfl rfl rfl (ao_mv (v := .int _ _) rfl) ?_
                      first | refine al_opd rfl rfl rfl (ao_indexAddrS Tryd.underlying26 Tryd.sizeOf37 rfl rfl (by exact IXp) (by exact IXp)) ?_ | refine al_opd rfl rfl rfl (ao_indexV Tryd.underlying26 Tryd.sizeOf37 rfl rfl hsl0 (by exact IXp) (by exact IXp)) ?_ | refine al_opd rfl rfl rfl (ao_indexV Tryd.underlying26 Tryd.sizeOf37 rfl rfl hsl1 (by exact IXp) (by exact IXp)) ?_ | refine al_opd rfl rfl rfl (ao_indexV Tryd.underlying26 Tryd.sizeOf37 rfl rfl hslq (by exact IXp) (by exact IXp)) ?_ | refine al_opd rfl rfl rfl (ao_indexV Tryd.underlying26 Tryd.sizeOf37 rfl rfl hslp (by exact IXp) (by exact IXp)) ?_ | refine al_opd rfl rfl rfl (ao_indexV Tryd.underlying26 Tryd.sizeOf37 rfl rfl hslo (by exact IXp) (by exact IXp)) ?_
                      first | refine al_opd rfl rfl rfl (ao_loada Tryd.isAgg37 Tryd.sizeOf37 rfl (by exact HLp) (by rfl) (by exact RFp)) ?_ | refine al_opd rfl rfl rfl (ao_loadsV (A := #[.int _ _, .int _ _]) Tryd.isAgg37 Tryd.sizeOf37 hsl0 rfl hP0 rfl (by decide)) ?_ | refine al_opd rfl rfl rfl (ao_loadsV (A := #[.int _ _, .int _ _]) Tryd.isAgg37 Tryd.sizeOf37 hsl0 rfl hP1 rfl (by decide)) ?_ | refine al_opd rfl rfl rfl (ao_loadsV (A := #[.int _ _, .int _ _]) Tryd.isAgg37 Tryd.sizeOf37 hsl0 rfl hQ0 rfl (by decide)) ?_ | refine al_opd rfl rfl rfl (ao_loadsV (A := #[.int _ _, .int _ _]) Tryd.isAgg37 Tryd.sizeOf37 hsl0 rfl hQ1 rfl (by decide)) ?_ | refine al_opd rfl rfl rfl (ao_loadsV (A := #[.int _ _, .int _ _]) Tryd.isAgg37 Tryd.sizeOf37 hsl0 rfl hxi rfl (by decide)) ?_ | refine al_opd rfl rfl rfl (ao_loadsV (A := #[.int _ _, .int _ _]) Tryd.isAgg37 Tryd.sizeOf37 hsl1 rfl hP0 rfl (by decide)) ?_ | refine al_opd rfl rfl rfl (ao_loadsV (A := #[.int _ _, .int _ _]) Tryd.isAgg37 Tryd.sizeOf37 hsl1 rfl hP1 rfl (by decide)) ?_ | refine al_opd rfl rfl rfl (ao_loadsV (A := #[.int _ _, .int _ _]) Tryd.isAgg37 Tryd.sizeOf37 hsl1 rfl hQ0 rfl (by decide)) ?_ | refine al_opd rfl rfl rfl (ao_loadsV (A := #[.int _ _, .int _ _]) Tryd.isAgg37 Tryd.sizeOf37 hsl1 rfl hQ1 rfl (by decide)) ?_ | refine al_opd rfl rfl rfl (ao_loadsV (A := #[.int _ _, .int _ _]) Tryd.isAgg37 Tryd.sizeOf37 hsl1 rfl hxi rfl (by decide)) ?_ | refine al_opd rfl rfl rfl (ao_loadsV (A := #[.int _ _, .int _ _]) Tryd.isAgg37 Tryd.sizeOf37 hslq rfl hP0 rfl (by decide)) ?_ | refine al_opd rfl rfl rfl (ao_loadsV (A := #[.int _ _, .int _ _]) Tryd.isAgg37 Tryd.sizeOf37 hslq rfl hP1 rfl (by decide)) ?_ | refine al_opd rfl rfl rfl (ao_loadsV (A := #[.int _ _, .int _ _]) Tryd.isAgg37 Tryd.sizeOf37 hslq rfl hQ0 rfl (by decide)) ?_ | refine al_opd rfl rfl rfl (ao_loadsV (A := #[.int _ _, .int _ _]) Tryd.isAgg37 Tryd.sizeOf37 hslq rfl hQ1 rfl (by decide)) ?_ | refine al_opd rfl rfl rfl (ao_loadsV (A := #[.int _ _, .int _ _]) Tryd.isAgg37 Tryd.sizeOf37 hslq rfl hxi rfl (by decide)) ?_ | refine al_opd rfl rfl rfl (ao_loadsV (A := #[.int _ _, .int _ _]) Tryd.isAgg37 Tryd.sizeOf37 hslp rfl hP0 rfl (by decide)) ?_ | refine al_opd rfl rfl rfl (ao_loadsV (A := #[.int _ _, .int _ _]) Tryd.isAgg37 Tryd.sizeOf37 hslp rfl hP1 rfl (by decide)) ?_ | refine al_opd rfl rfl rfl (ao_loadsV (A := #[.int _ _, .int _ _]) Tryd.isAgg37 Tryd.sizeOf37 hslp rfl hQ0 rfl (by decide)) ?_ | refine al_opd rfl rfl rfl (ao_loadsV (A := #[.int _ _, .int _ _]) Tryd.isAgg37 Tryd.sizeOf37 hslp rfl hQ1 rfl (by decide)) ?_ | refine al_opd rfl rfl rfl (ao_loadsV (A := #[.int _ _, .int _ _]) Tryd.isAgg37 Tryd.sizeOf37 hslp rfl hxi rfl (by decide)) ?_ | refine al_opd rfl rfl rfl (ao_loadsV (A := #[.int _ _, .int _ _]) Tryd.isAgg37 Tryd.sizeOf37 hslo rfl hP0 rfl (by decide)) ?_ | refine al_opd rfl rfl rfl (ao_loadsV (A := #[.int _ _, .int _ _]) Tryd.isAgg37 Tryd.sizeOf37 hslo rfl hP1 rfl (by decide)) ?_ | refine al_opd rfl rfl rfl (ao_loadsV (A := #[.int _ _, .int _ _]) Tryd.isAgg37 Tryd.sizeOf37 hslo rfl hQ0 rfl (by decide)) ?_ | refine al_opd rfl rfl rfl (ao_loadsV (A := #[.int _ _, .int _ _]) Tryd.isAgg37 Tryd.sizeOf37 hslo rfl hQ1 rfl (by decide)) ?_ | refine al_opd rfl rfl rfl (ao_loadsV (A := #[.int _ _, .int _ _]) Tryd.isAgg37 Tryd.sizeOf37 hslo rfl hxi rfl (by decide)) ?_
                      refine al_opd rfl rfl rfl (ao_mv (v := .int _ _) rfl) ?_
                      refine al_opd rfl rfl rfl (ao_calld (l01Next_c (s := posTo ⟨x, y⟩ w i) (k := lt4 b)) Tryd.call27 rfl rfl) ?_
                      refine al_opd rfl rfl rfl (ao_lit1 (v := .agg _) Tryd.underlying26 Tryd.sizeOf37 Tryd.zeroValue37 (by rfl) (by rfl) rfl rfl (by rfl) (by exact RFp)) ?_
                      refine al_opd rfl rfl rfl (ao_appC Tryd.underlying26 ⟨_, Tryd.underlying26⟩ elem37 (by rfl) (by rfl) (by exact HLp) (by (rw [fl_len spot_len, ← hn]; omega)) (by exact SCp) (by first | rfl | simp [isOne]) (by exact BDp) (by exact BDp)) ?_
                      refine al_opd rfl rfl rfl (ao_as (v := .slice _ _ _) rfl) ?_
                      refine al_nilB ?_
                      refine thenA_n ?_
                      refine aw_region ?_
                      refine al_opd rfl rfl rfl (ao_mv (v := .int _ _) rfl) ?_
                      first | refine al_opd rfl rfl rfl ((ao_add rfl rfl).val (nw_i64 BDp BDp)) ?_ | refine al_opd rfl rfl rfl (ao_add rfl rfl) ?_
                      refine al_opd rfl rfl rfl (ao_as (v := .int _ _) rfl) ?_
                      refine al_nilT ?_
                      refine ⟨_, ?_, _, rfl, i + 1, _, n + 1, _, by omega, rfl, by exact SMp, ?_, ?_, by exact HLp, by rw [path_succ, fl_snoc, pos_succ hb]; exact (by exact HLp), by rw [path_succ, List.length_append, ← hn]; rfl, Nat.le_succ _, by omega, fun j c hj hc => ?_, rfl, rfl, by rfl⟩
                      · omega
                      · exact LNp
                      · exact LNp
                      · rcases Nat.lt_or_ge j i with h9 | h9
                        · exact hlv j c h9 hc
                        · obtain rfl : j = i := by omega
                          rw [hb] at hc; cases hc; omega
                · try simp only [nrm] at h10_
                  have hil : i = w.size := by omega
                  subst hil
                  subst hn
                  obtain ⟨bp, hbp⟩ := exists_bool (plainF (pathTo ⟨x, y⟩ w w.size))
                  refine aw_exit ?_
                  refine thenA_x ?_
                  refine thenA_x ?_
                  refine blockA_hit ?_
                  refine thenA_n ?_
                  refine aw_seq ?_
                  refine aw_seq ?_
                  refine aw_region ?_
                  refine al_opd rfl rfl rfl (ao_mv (v := .slice _ _ _) rfl) ?_
                  refine al_opd rfl rfl rfl (ao_calld (l02Plain_c (l := (pathTo ⟨x, y⟩ w w.size)) (lb := qb) (c' := k) (b := bp) (by exact HLp) hk (by rw [path_len]; omega) (path_wf ⟨⟨by show (-128 : Int) ≤ x; omega, by show x ≤ (127 : Int); omega⟩, ⟨by show (-128 : Int) ≤ y; omega, by show y ≤ (127 : Int); omega⟩⟩ w _) hbp) Tryd.call14 rfl rfl) ?_
                  refine al_opd rfl rfl rfl (ao_not rfl) ?_
                  refine al_nilT ?_
                  refine aw_cond rfl (fun h13_ => ?_) (fun h13_ => ?_)
                  rotate_left
                  · try simp only [nrm] at h13_
                    exact absurd (read_text hP0 (.inr ⟨hPl, hP1, ne_pos h4_⟩) hQl hQ0 hQ1 hdx.1 hdy.1 hdx.2 hdy.2 hlv) (hno _ (hbp.mp h13_))
                  try simp only [nrm] at h13_
                  refine aw_seq ?_
                  refine aw_region ?_
                  refine al_opd rfl rfl rfl (ao_lit0 Tryd.underlying26 Tryd.sizeOf37 Tryd.zeroValue37 (by rfl) (by rfl) rfl) ?_
                  refine al_opd rfl rfl rfl (ao_as (v := .slice _ _ _) rfl) ?_
                  refine al_opd rfl rfl rfl (ao_as (v := .int _ _) rfl) ?_
                  refine al_nilT ?_
                  refine aw_ret ?_
                  refine thenA_r ?_
                  refine ends2 rfl (rv_tmp (v := .slice _ _ _) rfl) (rv_tmp (v := .int _ _) rfl) ?_
                  exact ⟨by exact SMp, _, by exact LEp, by exact HLp, fun ρ h => vr_tup2 (vr_sl h (by omega) (by omega)) (.int _ _)⟩

-- spec.ReadFile
theorem specRf01_c {t : ByteArray} {H : AHeap} (hsz : t.size ≤ 1048576) (hno : ∀ l, plainF l → fileTx l ≠ t) (hPl : (pcs 32 t).length = 1) : ACd Tryd.prog 10 [.string t] H (.tuple #[.slice (some ⟨H.next, 0, none⟩) 0 0, .int .i64 5]) (H.push (.cells (fl spot []) 2)) := by
  obtain ⟨p0, hP0⟩ := get_lt (show 0 < (pcs 32 t).length by omega)
  obtain ⟨w, hw0⟩ : ∃ w : ByteArray, w = ⟨#[]⟩ := ⟨_, rfl⟩
  have hws : w.size = 0 := by rw [hw0]; rfl
  have hs0 := pcs_size 32 t hP0
  have hPs := pcs_len 32 t
  have hQs := pcs_len 44 p0
  refine ac_gcs (vrl_fl spot_plain []) (ac_body Tryd.func10 rfl Tryd.ntmps10 rfl ?_)
  refine aw_seq ?_
  refine aw_region ?_
  refine al_opd rfl rfl rfl (ao_as (v := .slice _ _ _) rfl) ?_
  refine al_opd rfl rfl rfl (ao_as (v := .int _ _) rfl) ?_
  refine al_nilT ?_
  refine aw_seq ?_
  refine aw_region ?_
  refine al_opd rfl rfl rfl (ao_mv (v := .string _) rfl) ?_
  refine al_opd rfl rfl rfl (ao_calld (l01Split_c (t := t) (c := 32) (by omega)) Tryd.call24 rfl rfl) ?_
  have hsl0 : Sl (H.push (.cells (fl str1 (pcs 32 t)) 1)) str1 1 (.slice (some ⟨H.next, 0, none⟩) (pcs 32 t).length ((pcs 32 t).length + 1)) (pcs 32 t) := Sl.full str1_len (by exact HLp) rfl rfl rfl
  refine al_opd rfl rfl rfl (ao_as (v := .slice _ _ _) rfl) ?_
  refine al_nilT ?_
  refine aw_seq ?_
  refine aw_region ?_
  refine al_opd rfl rfl rfl (ao_mv (v := .slice _ _ _) rfl) ?_
  first | refine al_opd rfl rfl rfl (ao_indexAddrS Tryd.underlying50 Tryd.sizeOf9 rfl rfl (by exact IXp) (by exact IXp)) ?_ | refine al_opd rfl rfl rfl (ao_indexV Tryd.underlying50 Tryd.sizeOf9 rfl rfl hsl0 (by exact IXp) (by exact IXp)) ?_ | refine al_opd rfl rfl rfl (ao_indexV Tryd.underlying50 Tryd.sizeOf9 rfl rfl hsl1 (by exact IXp) (by exact IXp)) ?_ | refine al_opd rfl rfl rfl (ao_indexV Tryd.underlying50 Tryd.sizeOf9 rfl rfl hslq (by exact IXp) (by exact IXp)) ?_ | refine al_opd rfl rfl rfl (ao_indexV Tryd.underlying50 Tryd.sizeOf9 rfl rfl hslp (by exact IXp) (by exact IXp)) ?_ | refine al_opd rfl rfl rfl (ao_indexV Tryd.underlying50 Tryd.sizeOf9 rfl rfl hslo (by exact IXp) (by exact IXp)) ?_
  first | refine al_opd rfl rfl rfl (ao_load (v := .string _) Tryd.isAgg9 (by rfl) (by exact HLp) (by rfl) (by exact RFp)) ?_ | refine al_opd rfl rfl rfl (ao_loadV (j := 0) (u := .string _) Tryd.isAgg9 hsl0 rfl rfl hP0 rfl) ?_ | refine al_opd rfl rfl rfl (ao_loadV (j := 1) (u := .string _) Tryd.isAgg9 hsl0 rfl rfl hP0 rfl) ?_ | refine al_opd rfl rfl rfl (ao_loadV (j := 0) (u := .string _) Tryd.isAgg9 hsl0 rfl rfl hQ0 rfl) ?_ | refine al_opd rfl rfl rfl (ao_loadV (j := 1) (u := .string _) Tryd.isAgg9 hsl0 rfl rfl hQ0 rfl) ?_ | refine al_opd rfl rfl rfl (ao_loadV (j := 0) (u := .string _) Tryd.isAgg9 hsl0 rfl rfl hQ1 rfl) ?_ | refine al_opd rfl rfl rfl (ao_loadV (j := 1) (u := .string _) Tryd.isAgg9 hsl0 rfl rfl hQ1 rfl) ?_ | refine al_opd rfl rfl rfl (ao_loadV (j := 0) (u := .string _) Tryd.isAgg9 hsl0 rfl rfl hxi rfl) ?_ | refine al_opd rfl rfl rfl (ao_loadV (j := 1) (u := .string _) Tryd.isAgg9 hsl0 rfl rfl hxi rfl) ?_ | refine al_opd rfl rfl rfl (ao_loadV (j := 0) (u := .string _) Tryd.isAgg9 hsl1 rfl rfl hP0 rfl) ?_ | refine al_opd rfl rfl rfl (ao_loadV (j := 1) (u := .string _) Tryd.isAgg9 hsl1 rfl rfl hP0 rfl) ?_ | refine al_opd rfl rfl rfl (ao_loadV (j := 0) (u := .string _) Tryd.isAgg9 hsl1 rfl rfl hQ0 rfl) ?_ | refine al_opd rfl rfl rfl (ao_loadV (j := 1) (u := .string _) Tryd.isAgg9 hsl1 rfl rfl hQ0 rfl) ?_ | refine al_opd rfl rfl rfl (ao_loadV (j := 0) (u := .string _) Tryd.isAgg9 hsl1 rfl rfl hQ1 rfl) ?_ | refine al_opd rfl rfl rfl (ao_loadV (j := 1) (u := .string _) Tryd.isAgg9 hsl1 rfl rfl hQ1 rfl) ?_ | refine al_opd rfl rfl rfl (ao_loadV (j := 0) (u := .string _) Tryd.isAgg9 hsl1 rfl rfl hxi rfl) ?_ | refine al_opd rfl rfl rfl (ao_loadV (j := 1) (u := .string _) Tryd.isAgg9 hsl1 rfl rfl hxi rfl) ?_ | refine al_opd rfl rfl rfl (ao_loadV (j := 0) (u := .string _) Tryd.isAgg9 hslq rfl rfl hP0 rfl) ?_ | refine al_opd rfl rfl rfl (ao_loadV (j := 1) (u := .string _) Tryd.isAgg9 hslq rfl rfl hP0 rfl) ?_ | refine al_opd rfl rfl rfl (ao_loadV (j := 0) (u := .string _) Tryd.isAgg9 hslq rfl rfl hQ0 rfl) ?_ | refine al_opd rfl rfl rfl (ao_loadV (j := 1) (u := .string _) Tryd.isAgg9 hslq rfl rfl hQ0 rfl) ?_ | refine al_opd rfl rfl rfl (ao_loadV (j := 0) (u := .string _) Tryd.isAgg9 hslq rfl rfl hQ1 rfl) ?_ | refine al_opd rfl rfl rfl (ao_loadV (j := 1) (u := .string _) Tryd.isAgg9 hslq rfl rfl hQ1 rfl) ?_ | refine al_opd rfl rfl rfl (ao_loadV (j := 0) (u := .string _) Tryd.isAgg9 hslq rfl rfl hxi rfl) ?_ | refine al_opd rfl rfl rfl (ao_loadV (j := 1) (u := .string _) Tryd.isAgg9 hslq rfl rfl hxi rfl) ?_ | refine al_opd rfl rfl rfl (ao_loadV (j := 0) (u := .string _) Tryd.isAgg9 hslp rfl rfl hP0 rfl) ?_ | refine al_opd rfl rfl rfl (ao_loadV (j := 1) (u := .string _) Tryd.isAgg9 hslp rfl rfl hP0 rfl) ?_ | refine al_opd rfl rfl rfl (ao_loadV (j := 0) (u := .string _) Tryd.isAgg9 hslp rfl rfl hQ0 rfl) ?_ | refine al_opd rfl rfl rfl (ao_loadV (j := 1) (u := .string _) Tryd.isAgg9 hslp rfl rfl hQ0 rfl) ?_ | refine al_opd rfl rfl rfl (ao_loadV (j := 0) (u := .string _) Tryd.isAgg9 hslp rfl rfl hQ1 rfl) ?_ | refine al_opd rfl rfl rfl (ao_loadV (j := 1) (u := .string _) Tryd.isAgg9 hslp rfl rfl hQ1 rfl) ?_ | refine al_opd rfl rfl rfl (ao_loadV (j := 0) (u := .string _) Tryd.isAgg9 hslp rfl rfl hxi rfl) ?_ | refine al_opd rfl rfl rfl (ao_loadV (j := 1) (u := .string _) Tryd.isAgg9 hslp rfl rfl hxi rfl) ?_ | refine al_opd rfl rfl rfl (ao_loadV (j := 0) (u := .string _) Tryd.isAgg9 hslo rfl rfl hP0 rfl) ?_ | refine al_opd rfl rfl rfl (ao_loadV (j := 1) (u := .string _) Tryd.isAgg9 hslo rfl rfl hP0 rfl) ?_ | refine al_opd rfl rfl rfl (ao_loadV (j := 0) (u := .string _) Tryd.isAgg9 hslo rfl rfl hQ0 rfl) ?_ | refine al_opd rfl rfl rfl (ao_loadV (j := 1) (u := .string _) Tryd.isAgg9 hslo rfl rfl hQ0 rfl) ?_ | refine al_opd rfl rfl rfl (ao_loadV (j := 0) (u := .string _) Tryd.isAgg9 hslo rfl rfl hQ1 rfl) ?_ | refine al_opd rfl rfl rfl (ao_loadV (j := 1) (u := .string _) Tryd.isAgg9 hslo rfl rfl hQ1 rfl) ?_ | refine al_opd rfl rfl rfl (ao_loadV (j := 0) (u := .string _) Tryd.isAgg9 hslo rfl rfl hxi rfl) ?_ | refine al_opd rfl rfl rfl (ao_loadV (j := 1) (u := .string _) Tryd.isAgg9 hslo rfl rfl hxi rfl) ?_
  refine al_opd rfl rfl rfl (ao_calld (l01Split_c (t := p0) (c := 44) (by omega)) Tryd.call24 rfl rfl) ?_
  have hsl1 : Sl ((H.push (.cells (fl str1 (pcs 32 t)) 1)).push (.cells (fl str1 (pcs 44 p0)) 1)) str1 1 (.slice (some ⟨H.next, 0, none⟩) (pcs 32 t).length ((pcs 32 t).length + 1)) (pcs 32 t) := Sl.full str1_len (by exact HLp) rfl rfl rfl
  have hslq : Sl ((H.push (.cells (fl str1 (pcs 32 t)) 1)).push (.cells (fl str1 (pcs 44 p0)) 1)) str1 1 (.slice (some ⟨H.next + 1, 0, none⟩) (pcs 44 p0).length ((pcs 44 p0).length + 1)) (pcs 44 p0) := Sl.full str1_len (by exact HLp) rfl rfl rfl
  refine al_opd rfl rfl rfl (ao_as (v := .slice _ _ _) rfl) ?_
  refine al_nilT ?_
  refine aw_seq ?_
  refine aw_seq ?_
  refine aw_region ?_
  refine al_opd rfl rfl rfl (ao_mv (v := .slice _ _ _) rfl) ?_
  first | refine al_opd rfl rfl rfl (ao_lenS Tryd.underlying50 (by rfl)) ?_ | refine al_opd rfl rfl rfl (ao_lenN Tryd.underlying50 (by rfl)) ?_ | refine al_opd rfl rfl rfl (ao_lenV Tryd.underlying50 rfl hsl0) ?_ | refine al_opd rfl rfl rfl (ao_lenV Tryd.underlying50 rfl hsl1) ?_ | refine al_opd rfl rfl rfl (ao_lenV Tryd.underlying50 rfl hslq) ?_ | refine al_opd rfl rfl rfl (ao_lenV Tryd.underlying50 rfl hslp) ?_ | refine al_opd rfl rfl rfl (ao_lenV Tryd.underlying50 rfl hslo) ?_
  refine al_opd rfl rfl rfl (ao_gtr rfl rfl) ?_
  refine al_opd rfl rfl rfl (ao_mv (v := .bool _) rfl) ?_
  refine al_cases (d := 22) rfl (fun h1_ => ?_) (fun h1_ => ?_)
  · try simp only [nrm] at h1_
    first | done | omega | (exfalso; revert h1_; simp; (first | done | omega))
  try simp only [nrm] at h1_
  refine al_gyes rfl rfl rfl rfl rfl (ao_mv (v := .slice _ _ _) rfl) ?_
  first | refine al_gyes rfl rfl rfl rfl rfl (ao_lenS Tryd.underlying50 (by rfl)) ?_ | refine al_gyes rfl rfl rfl rfl rfl (ao_lenN Tryd.underlying50 (by rfl)) ?_ | refine al_gyes rfl rfl rfl rfl rfl (ao_lenV Tryd.underlying50 rfl hsl0) ?_ | refine al_gyes rfl rfl rfl rfl rfl (ao_lenV Tryd.underlying50 rfl hsl1) ?_ | refine al_gyes rfl rfl rfl rfl rfl (ao_lenV Tryd.underlying50 rfl hslq) ?_ | refine al_gyes rfl rfl rfl rfl rfl (ao_lenV Tryd.underlying50 rfl hslp) ?_ | refine al_gyes rfl rfl rfl rfl rfl (ao_lenV Tryd.underlying50 rfl hslo) ?_
  refine al_gyes rfl rfl rfl rfl rfl (ao_neq rfl rfl) ?_
  refine al_opd rfl rfl rfl (ao_pickF rfl (v := .bool _) rfl) ?_
  refine al_opd rfl rfl rfl (ao_mv (v := .bool _) rfl) ?_
  refine al_cases (d := 27) rfl (fun h2_ => ?_) (fun h2_ => ?_)
  · try simp only [nrm] at h2_
    refine al_gno rfl rfl rfl rfl rfl ?_
    refine al_gno rfl rfl rfl rfl rfl ?_
    refine al_gno rfl rfl rfl rfl rfl ?_
    refine al_gno rfl rfl rfl rfl rfl ?_
    refine al_gnu rfl rfl rfl rfl ?_
    refine al_gnu rfl rfl rfl rfl ?_
    refine al_gnu rfl rfl rfl rfl ?_
    refine al_gnu rfl rfl rfl rfl ?_
    refine al_gno rfl rfl rfl rfl rfl ?_
    refine al_opd rfl rfl rfl (ao_pickT rfl (v := .bool _) rfl) ?_
    refine al_nilT ?_
    refine aw_condT (by rfl) ⟨_, rfl⟩ ?_
    refine aw_seq ?_
    refine aw_region ?_
    refine al_opd rfl rfl rfl (ao_lit0 Tryd.underlying26 Tryd.sizeOf37 Tryd.zeroValue37 (by rfl) (by rfl) rfl) ?_
    refine al_opd rfl rfl rfl (ao_as (v := .slice _ _ _) rfl) ?_
    refine al_opd rfl rfl rfl (ao_as (v := .int _ _) rfl) ?_
    refine al_nilT ?_
    refine aw_ret ?_
    refine thenA_r ?_
    refine ends2 rfl (rv_tmp (v := .slice _ _ _) rfl) (rv_tmp (v := .int _ _) rfl) ?_
    exact ⟨by exact SMp, _, by exact LEp, by exact HLp, fun ρ h => vr_tup2 (vr_sl h (by omega) (by omega)) (.int _ _)⟩
  · try simp only [nrm] at h2_
    have hQl : (pcs 44 p0).length = 2 := by omega
    obtain ⟨px, hQ0⟩ := get_lt (show 0 < (pcs 44 p0).length by omega)
    obtain ⟨py, hQ1⟩ := get_lt (show 1 < (pcs 44 p0).length by omega)
    obtain ⟨x, o1, hN1⟩ := exists_num2 px
    obtain ⟨y, o2, hN2⟩ := exists_num2 py
    have ⟨x0, xb⟩ := num2_bnd hN1
    have ⟨y0, yb⟩ := num2_bnd hN2
    refine al_gyes rfl rfl rfl rfl rfl (ao_mv (v := .slice _ _ _) rfl) ?_
    first | refine al_gyes rfl rfl rfl rfl rfl (ao_lenS Tryd.underlying50 (by rfl)) ?_ | refine al_gyes rfl rfl rfl rfl rfl (ao_lenN Tryd.underlying50 (by rfl)) ?_ | refine al_gyes rfl rfl rfl rfl rfl (ao_lenV Tryd.underlying50 rfl hsl0) ?_ | refine al_gyes rfl rfl rfl rfl rfl (ao_lenV Tryd.underlying50 rfl hsl1) ?_ | refine al_gyes rfl rfl rfl rfl rfl (ao_lenV Tryd.underlying50 rfl hslq) ?_ | refine al_gyes rfl rfl rfl rfl rfl (ao_lenV Tryd.underlying50 rfl hslp) ?_ | refine al_gyes rfl rfl rfl rfl rfl (ao_lenV Tryd.underlying50 rfl hslo) ?_
    refine al_gyes rfl rfl rfl rfl rfl (ao_eql rfl rfl) ?_
    refine al_gyes rfl rfl rfl rfl rfl (ao_mv (v := .bool _) rfl) ?_
    refine al_cases (d := 31) rfl (fun h3_ => ?_) (fun h3_ => ?_)
    · try simp only [nrm] at h3_
      first | done | omega | (exfalso; revert h3_; simp; (first | done | omega))
    try simp only [nrm] at h3_
    refine al_gno rfl rfl rfl rfl rfl ?_
    refine al_gno rfl rfl rfl rfl rfl ?_
    refine al_gno rfl rfl rfl rfl rfl ?_
    refine al_gno rfl rfl rfl rfl rfl ?_
    refine al_gyes rfl rfl rfl rfl rfl (ao_pickF rfl (v := .bool _) rfl) ?_
    refine al_opd rfl rfl rfl (ao_pickF rfl (v := .bool _) rfl) ?_
    refine al_nilT ?_
    refine aw_condF (by rfl) ⟨_, rfl⟩ ?_
    refine aw_skipT ?_
    refine aw_seq ?_
    refine aw_region ?_
    refine al_opd rfl rfl rfl (ao_mv (v := .slice _ _ _) rfl) ?_
    first | refine al_opd rfl rfl rfl (ao_indexAddrS Tryd.underlying50 Tryd.sizeOf9 rfl rfl (by exact IXp) (by exact IXp)) ?_ | refine al_opd rfl rfl rfl (ao_indexV Tryd.underlying50 Tryd.sizeOf9 rfl rfl hsl0 (by exact IXp) (by exact IXp)) ?_ | refine al_opd rfl rfl rfl (ao_indexV Tryd.underlying50 Tryd.sizeOf9 rfl rfl hsl1 (by exact IXp) (by exact IXp)) ?_ | refine al_opd rfl rfl rfl (ao_indexV Tryd.underlying50 Tryd.sizeOf9 rfl rfl hslq (by exact IXp) (by exact IXp)) ?_ | refine al_opd rfl rfl rfl (ao_indexV Tryd.underlying50 Tryd.sizeOf9 rfl rfl hslp (by exact IXp) (by exact IXp)) ?_ | refine al_opd rfl rfl rfl (ao_indexV Tryd.underlying50 Tryd.sizeOf9 rfl rfl hslo (by exact IXp) (by exact IXp)) ?_
    first | refine al_opd rfl rfl rfl (ao_load (v := .string _) Tryd.isAgg9 (by rfl) (by exact HLp) (by rfl) (by exact RFp)) ?_ | refine al_opd rfl rfl rfl (ao_loadV (j := 0) (u := .string _) Tryd.isAgg9 hsl0 rfl rfl hP0 rfl) ?_ | refine al_opd rfl rfl rfl (ao_loadV (j := 1) (u := .string _) Tryd.isAgg9 hsl0 rfl rfl hP0 rfl) ?_ | refine al_opd rfl rfl rfl (ao_loadV (j := 0) (u := .string _) Tryd.isAgg9 hsl0 rfl rfl hQ0 rfl) ?_ | refine al_opd rfl rfl rfl (ao_loadV (j := 1) (u := .string _) Tryd.isAgg9 hsl0 rfl rfl hQ0 rfl) ?_ | refine al_opd rfl rfl rfl (ao_loadV (j := 0) (u := .string _) Tryd.isAgg9 hsl0 rfl rfl hQ1 rfl) ?_ | refine al_opd rfl rfl rfl (ao_loadV (j := 1) (u := .string _) Tryd.isAgg9 hsl0 rfl rfl hQ1 rfl) ?_ | refine al_opd rfl rfl rfl (ao_loadV (j := 0) (u := .string _) Tryd.isAgg9 hsl0 rfl rfl hxi rfl) ?_ | refine al_opd rfl rfl rfl (ao_loadV (j := 1) (u := .string _) Tryd.isAgg9 hsl0 rfl rfl hxi rfl) ?_ | refine al_opd rfl rfl rfl (ao_loadV (j := 0) (u := .string _) Tryd.isAgg9 hsl1 rfl rfl hP0 rfl) ?_ | refine al_opd rfl rfl rfl (ao_loadV (j := 1) (u := .string _) Tryd.isAgg9 hsl1 rfl rfl hP0 rfl) ?_ | refine al_opd rfl rfl rfl (ao_loadV (j := 0) (u := .string _) Tryd.isAgg9 hsl1 rfl rfl hQ0 rfl) ?_ | refine al_opd rfl rfl rfl (ao_loadV (j := 1) (u := .string _) Tryd.isAgg9 hsl1 rfl rfl hQ0 rfl) ?_ | refine al_opd rfl rfl rfl (ao_loadV (j := 0) (u := .string _) Tryd.isAgg9 hsl1 rfl rfl hQ1 rfl) ?_ | refine al_opd rfl rfl rfl (ao_loadV (j := 1) (u := .string _) Tryd.isAgg9 hsl1 rfl rfl hQ1 rfl) ?_ | refine al_opd rfl rfl rfl (ao_loadV (j := 0) (u := .string _) Tryd.isAgg9 hsl1 rfl rfl hxi rfl) ?_ | refine al_opd rfl rfl rfl (ao_loadV (j := 1) (u := .string _) Tryd.isAgg9 hsl1 rfl rfl hxi rfl) ?_ | refine al_opd rfl rfl rfl (ao_loadV (j := 0) (u := .string _) Tryd.isAgg9 hslq rfl rfl hP0 rfl) ?_ | refine al_opd rfl rfl rfl (ao_loadV (j := 1) (u := .string _) Tryd.isAgg9 hslq rfl rfl hP0 rfl) ?_ | refine al_opd rfl rfl rfl (ao_loadV (j := 0) (u := .string _) Tryd.isAgg9 hslq rfl rfl hQ0 rfl) ?_ | refine al_opd rfl rfl rfl (ao_loadV (j := 1) (u := .string _) Tryd.isAgg9 hslq rfl rfl hQ0 rfl) ?_ | refine al_opd rfl rfl rfl (ao_loadV (j := 0) (u := .string _) Tryd.isAgg9 hslq rfl rfl hQ1 rfl) ?_ | refine al_opd rfl rfl rfl (ao_loadV (j := 1) (u := .string _) Tryd.isAgg9 hslq rfl rfl hQ1 rfl) ?_ | refine al_opd rfl rfl rfl (ao_loadV (j := 0) (u := .string _) Tryd.isAgg9 hslq rfl rfl hxi rfl) ?_ | refine al_opd rfl rfl rfl (ao_loadV (j := 1) (u := .string _) Tryd.isAgg9 hslq rfl rfl hxi rfl) ?_ | refine al_opd rfl rfl rfl (ao_loadV (j := 0) (u := .string _) Tryd.isAgg9 hslp rfl rfl hP0 rfl) ?_ | refine al_opd rfl rfl rfl (ao_loadV (j := 1) (u := .string _) Tryd.isAgg9 hslp rfl rfl hP0 rfl) ?_ | refine al_opd rfl rfl rfl (ao_loadV (j := 0) (u := .string _) Tryd.isAgg9 hslp rfl rfl hQ0 rfl) ?_ | refine al_opd rfl rfl rfl (ao_loadV (j := 1) (u := .string _) Tryd.isAgg9 hslp rfl rfl hQ0 rfl) ?_ | refine al_opd rfl rfl rfl (ao_loadV (j := 0) (u := .string _) Tryd.isAgg9 hslp rfl rfl hQ1 rfl) ?_ | refine al_opd rfl rfl rfl (ao_loadV (j := 1) (u := .string _) Tryd.isAgg9 hslp rfl rfl hQ1 rfl) ?_ | refine al_opd rfl rfl rfl (ao_loadV (j := 0) (u := .string _) Tryd.isAgg9 hslp rfl rfl hxi rfl) ?_ | refine al_opd rfl rfl rfl (ao_loadV (j := 1) (u := .string _) Tryd.isAgg9 hslp rfl rfl hxi rfl) ?_ | refine al_opd rfl rfl rfl (ao_loadV (j := 0) (u := .string _) Tryd.isAgg9 hslo rfl rfl hP0 rfl) ?_ | refine al_opd rfl rfl rfl (ao_loadV (j := 1) (u := .string _) Tryd.isAgg9 hslo rfl rfl hP0 rfl) ?_ | refine al_opd rfl rfl rfl (ao_loadV (j := 0) (u := .string _) Tryd.isAgg9 hslo rfl rfl hQ0 rfl) ?_ | refine al_opd rfl rfl rfl (ao_loadV (j := 1) (u := .string _) Tryd.isAgg9 hslo rfl rfl hQ0 rfl) ?_ | refine al_opd rfl rfl rfl (ao_loadV (j := 0) (u := .string _) Tryd.isAgg9 hslo rfl rfl hQ1 rfl) ?_ | refine al_opd rfl rfl rfl (ao_loadV (j := 1) (u := .string _) Tryd.isAgg9 hslo rfl rfl hQ1 rfl) ?_ | refine al_opd rfl rfl rfl (ao_loadV (j := 0) (u := .string _) Tryd.isAgg9 hslo rfl rfl hxi rfl) ?_ | refine al_opd rfl rfl rfl (ao_loadV (j := 1) (u := .string _) Tryd.isAgg9 hslo rfl rfl hxi rfl) ?_
    refine al_opd rfl rfl rfl (ao_calld (l01NumX_c hN1) Tryd.call25 rfl rfl) ?_
    refine al_opd rfl rfl rfl (ao_mv (v := .tuple _) rfl) ?_
    refine al_opd rfl rfl rfl (ao_extract (v := .int _ _) rfl rfl) ?_
    refine al_opd rfl rfl rfl (ao_extract (v := .bool _) rfl rfl) ?_
    refine al_opd rfl rfl rfl (ao_as (v := .int _ _) rfl) ?_
    refine al_opd rfl rfl rfl (ao_as (v := .bool _) rfl) ?_
    refine al_nilT ?_
    refine aw_seq ?_
    refine aw_region ?_
    refine al_opd rfl rfl rfl (ao_mv (v := .slice _ _ _) rfl) ?_
    first | refine al_opd rfl rfl rfl (ao_indexAddrS Tryd.underlying50 Tryd.sizeOf9 rfl rfl (by exact IXp) (by exact IXp)) ?_ | refine al_opd rfl rfl rfl (ao_indexV Tryd.underlying50 Tryd.sizeOf9 rfl rfl hsl0 (by exact IXp) (by exact IXp)) ?_ | refine al_opd rfl rfl rfl (ao_indexV Tryd.underlying50 Tryd.sizeOf9 rfl rfl hsl1 (by exact IXp) (by exact IXp)) ?_ | refine al_opd rfl rfl rfl (ao_indexV Tryd.underlying50 Tryd.sizeOf9 rfl rfl hslq (by exact IXp) (by exact IXp)) ?_ | refine al_opd rfl rfl rfl (ao_indexV Tryd.underlying50 Tryd.sizeOf9 rfl rfl hslp (by exact IXp) (by exact IXp)) ?_ | refine al_opd rfl rfl rfl (ao_indexV Tryd.underlying50 Tryd.sizeOf9 rfl rfl hslo (by exact IXp) (by exact IXp)) ?_
    first | refine al_opd rfl rfl rfl (ao_load (v := .string _) Tryd.isAgg9 (by rfl) (by exact HLp) (by rfl) (by exact RFp)) ?_ | refine al_opd rfl rfl rfl (ao_loadV (j := 0) (u := .string _) Tryd.isAgg9 hsl0 rfl rfl hP0 rfl) ?_ | refine al_opd rfl rfl rfl (ao_loadV (j := 1) (u := .string _) Tryd.isAgg9 hsl0 rfl rfl hP0 rfl) ?_ | refine al_opd rfl rfl rfl (ao_loadV (j := 0) (u := .string _) Tryd.isAgg9 hsl0 rfl rfl hQ0 rfl) ?_ | refine al_opd rfl rfl rfl (ao_loadV (j := 1) (u := .string _) Tryd.isAgg9 hsl0 rfl rfl hQ0 rfl) ?_ | refine al_opd rfl rfl rfl (ao_loadV (j := 0) (u := .string _) Tryd.isAgg9 hsl0 rfl rfl hQ1 rfl) ?_ | refine al_opd rfl rfl rfl (ao_loadV (j := 1) (u := .string _) Tryd.isAgg9 hsl0 rfl rfl hQ1 rfl) ?_ | refine al_opd rfl rfl rfl (ao_loadV (j := 0) (u := .string _) Tryd.isAgg9 hsl0 rfl rfl hxi rfl) ?_ | refine al_opd rfl rfl rfl (ao_loadV (j := 1) (u := .string _) Tryd.isAgg9 hsl0 rfl rfl hxi rfl) ?_ | refine al_opd rfl rfl rfl (ao_loadV (j := 0) (u := .string _) Tryd.isAgg9 hsl1 rfl rfl hP0 rfl) ?_ | refine al_opd rfl rfl rfl (ao_loadV (j := 1) (u := .string _) Tryd.isAgg9 hsl1 rfl rfl hP0 rfl) ?_ | refine al_opd rfl rfl rfl (ao_loadV (j := 0) (u := .string _) Tryd.isAgg9 hsl1 rfl rfl hQ0 rfl) ?_ | refine al_opd rfl rfl rfl (ao_loadV (j := 1) (u := .string _) Tryd.isAgg9 hsl1 rfl rfl hQ0 rfl) ?_ | refine al_opd rfl rfl rfl (ao_loadV (j := 0) (u := .string _) Tryd.isAgg9 hsl1 rfl rfl hQ1 rfl) ?_ | refine al_opd rfl rfl rfl (ao_loadV (j := 1) (u := .string _) Tryd.isAgg9 hsl1 rfl rfl hQ1 rfl) ?_ | refine al_opd rfl rfl rfl (ao_loadV (j := 0) (u := .string _) Tryd.isAgg9 hsl1 rfl rfl hxi rfl) ?_ | refine al_opd rfl rfl rfl (ao_loadV (j := 1) (u := .string _) Tryd.isAgg9 hsl1 rfl rfl hxi rfl) ?_ | refine al_opd rfl rfl rfl (ao_loadV (j := 0) (u := .string _) Tryd.isAgg9 hslq rfl rfl hP0 rfl) ?_ | refine al_opd rfl rfl rfl (ao_loadV (j := 1) (u := .string _) Tryd.isAgg9 hslq rfl rfl hP0 rfl) ?_ | refine al_opd rfl rfl rfl (ao_loadV (j := 0) (u := .string _) Tryd.isAgg9 hslq rfl rfl hQ0 rfl) ?_ | refine al_opd rfl rfl rfl (ao_loadV (j := 1) (u := .string _) Tryd.isAgg9 hslq rfl rfl hQ0 rfl) ?_ | refine al_opd rfl rfl rfl (ao_loadV (j := 0) (u := .string _) Tryd.isAgg9 hslq rfl rfl hQ1 rfl) ?_ | refine al_opd rfl rfl rfl (ao_loadV (j := 1) (u := .string _) Tryd.isAgg9 hslq rfl rfl hQ1 rfl) ?_ | refine al_opd rfl rfl rfl (ao_loadV (j := 0) (u := .string _) Tryd.isAgg9 hslq rfl rfl hxi rfl) ?_ | refine al_opd rfl rfl rfl (ao_loadV (j := 1) (u := .string _) Tryd.isAgg9 hslq rfl rfl hxi rfl) ?_ | refine al_opd rfl rfl rfl (ao_loadV (j := 0) (u := .string _) Tryd.isAgg9 hslp rfl rfl hP0 rfl) ?_ | refine al_opd rfl rfl rfl (ao_loadV (j := 1) (u := .string _) Tryd.isAgg9 hslp rfl rfl hP0 rfl) ?_ | refine al_opd rfl rfl rfl (ao_loadV (j := 0) (u := .string _) Tryd.isAgg9 hslp rfl rfl hQ0 rfl) ?_ | refine al_opd rfl rfl rfl (ao_loadV (j := 1) (u := .string _) Tryd.isAgg9 hslp rfl rfl hQ0 rfl) ?_ | refine al_opd rfl rfl rfl (ao_loadV (j := 0) (u := .string _) Tryd.isAgg9 hslp rfl rfl hQ1 rfl) ?_ | refine al_opd rfl rfl rfl (ao_loadV (j := 1) (u := .string _) Tryd.isAgg9 hslp rfl rfl hQ1 rfl) ?_ | refine al_opd rfl rfl rfl (ao_loadV (j := 0) (u := .string _) Tryd.isAgg9 hslp rfl rfl hxi rfl) ?_ | refine al_opd rfl rfl rfl (ao_loadV (j := 1) (u := .string _) Tryd.isAgg9 hslp rfl rfl hxi rfl) ?_ | refine al_opd rfl rfl rfl (ao_loadV (j := 0) (u := .string _) Tryd.isAgg9 hslo rfl rfl hP0 rfl) ?_ | refine al_opd rfl rfl rfl (ao_loadV (j := 1) (u := .string _) Tryd.isAgg9 hslo rfl rfl hP0 rfl) ?_ | refine al_opd rfl rfl rfl (ao_loadV (j := 0) (u := .string _) Tryd.isAgg9 hslo rfl rfl hQ0 rfl) ?_ | refine al_opd rfl rfl rfl (ao_loadV (j := 1) (u := .string _) Tryd.isAgg9 hslo rfl rfl hQ0 rfl) ?_ | refine al_opd rfl rfl rfl (ao_loadV (j := 0) (u := .string _) Tryd.isAgg9 hslo rfl rfl hQ1 rfl) ?_ | refine al_opd rfl rfl rfl (ao_loadV (j := 1) (u := .string _) Tryd.isAgg9 hslo rfl rfl hQ1 rfl) ?_ | refine al_opd rfl rfl rfl (ao_loadV (j := 0) (u := .string _) Tryd.isAgg9 hslo rfl rfl hxi rfl) ?_ | refine al_opd rfl rfl rfl (ao_loadV (j := 1) (u := .string _) Tryd.isAgg9 hslo rfl rfl hxi rfl) ?_
    refine al_opd rfl rfl rfl (ao_calld (l01NumX_c hN2) Tryd.call25 rfl rfl) ?_
    refine al_opd rfl rfl rfl (ao_mv (v := .tuple _) rfl) ?_
    refine al_opd rfl rfl rfl (ao_extract (v := .int _ _) rfl rfl) ?_
    refine al_opd rfl rfl rfl (ao_extract (v := .bool _) rfl rfl) ?_
    refine al_opd rfl rfl rfl (ao_as (v := .int _ _) rfl) ?_
    refine al_opd rfl rfl rfl (ao_as (v := .bool _) rfl) ?_
    refine al_nilT ?_
    refine aw_seq ?_
    refine aw_seq ?_
    refine aw_region ?_
    refine al_opd rfl rfl rfl (ao_mv (v := .bool _) rfl) ?_
    refine al_opd rfl rfl rfl (ao_not rfl) ?_
    refine al_opd rfl rfl rfl (ao_mv (v := .bool _) rfl) ?_
    refine al_cases (d := 55) rfl (fun h4_ => ?_) (fun h4_ => ?_)
    · try simp only [nrm] at h4_
      refine al_gno rfl rfl rfl rfl rfl ?_
      refine al_gno rfl rfl rfl rfl rfl ?_
      refine al_opd rfl rfl rfl (ao_pickT rfl (v := .bool _) rfl) ?_
      refine al_opd rfl rfl rfl (ao_mv (v := .bool _) rfl) ?_
      refine al_gno rfl rfl rfl rfl rfl ?_
      refine al_gno rfl rfl rfl rfl rfl ?_
      refine al_opd rfl rfl rfl (ao_pickT rfl (v := .bool _) rfl) ?_
      refine al_opd rfl rfl rfl (ao_mv (v := .bool _) rfl) ?_
      refine al_gno rfl rfl rfl rfl rfl ?_
      refine al_gno rfl rfl rfl rfl rfl ?_
      refine al_opd rfl rfl rfl (ao_pickT rfl (v := .bool _) rfl) ?_
      refine al_nilT ?_
      refine aw_condT (by rfl) ⟨_, rfl⟩ ?_
      refine aw_seq ?_
      refine aw_region ?_
      refine al_opd rfl rfl rfl (ao_lit0 Tryd.underlying26 Tryd.sizeOf37 Tryd.zeroValue37 (by rfl) (by rfl) rfl) ?_
      refine al_opd rfl rfl rfl (ao_as (v := .slice _ _ _) rfl) ?_
      refine al_opd rfl rfl rfl (ao_as (v := .int _ _) rfl) ?_
      refine al_nilT ?_
      refine aw_ret ?_
      refine thenA_r ?_
      refine ends2 rfl (rv_tmp (v := .slice _ _ _) rfl) (rv_tmp (v := .int _ _) rfl) ?_
      exact ⟨by exact SMp, _, by exact LEp, by exact HLp, fun ρ h => vr_tup2 (vr_sl h (by omega) (by omega)) (.int _ _)⟩
    · try simp only [nrm] at h4_
      refine al_gyes rfl rfl rfl rfl rfl (ao_mv (v := .bool _) rfl) ?_
      refine al_gyes rfl rfl rfl rfl rfl (ao_not rfl) ?_
      refine al_opd rfl rfl rfl (ao_pickF rfl (v := .bool _) rfl) ?_
      refine al_opd rfl rfl rfl (ao_mv (v := .bool _) rfl) ?_
      refine al_cases (d := 59) rfl (fun h5_ => ?_) (fun h5_ => ?_)
      · try simp only [nrm] at h5_
        refine al_gno rfl rfl rfl rfl rfl ?_
        refine al_gno rfl rfl rfl rfl rfl ?_
        refine al_opd rfl rfl rfl (ao_pickT rfl (v := .bool _) rfl) ?_
        refine al_opd rfl rfl rfl (ao_mv (v := .bool _) rfl) ?_
        refine al_gno rfl rfl rfl rfl rfl ?_
        refine al_gno rfl rfl rfl rfl rfl ?_
        refine al_opd rfl rfl rfl (ao_pickT rfl (v := .bool _) rfl) ?_
        refine al_nilT ?_
        refine aw_condT (by rfl) ⟨_, rfl⟩ ?_
        refine aw_seq ?_
        refine aw_region ?_
        refine al_opd rfl rfl rfl (ao_lit0 Tryd.underlying26 Tryd.sizeOf37 Tryd.zeroValue37 (by rfl) (by rfl) rfl) ?_
        refine al_opd rfl rfl rfl (ao_as (v := .slice _ _ _) rfl) ?_
        refine al_opd rfl rfl rfl (ao_as (v := .int _ _) rfl) ?_
        refine al_nilT ?_
        refine aw_ret ?_
        refine thenA_r ?_
        refine ends2 rfl (rv_tmp (v := .slice _ _ _) rfl) (rv_tmp (v := .int _ _) rfl) ?_
        exact ⟨by exact SMp, _, by exact LEp, by exact HLp, fun ρ h => vr_tup2 (vr_sl h (by omega) (by omega)) (.int _ _)⟩
      · try simp only [nrm] at h5_
        refine al_gyes rfl rfl rfl rfl rfl (ao_mv (v := .int _ _) rfl) ?_
        refine al_gyes rfl rfl rfl rfl rfl (ao_geq rfl rfl) ?_
        refine al_opd rfl rfl rfl (ao_pickF rfl (v := .bool _) rfl) ?_
        refine al_opd rfl rfl rfl (ao_mv (v := .bool _) rfl) ?_
        refine al_cases (d := 63) rfl (fun h6_ => ?_) (fun h6_ => ?_)
        · try simp only [nrm] at h6_
          refine al_gno rfl rfl rfl rfl rfl ?_
          refine al_gno rfl rfl rfl rfl rfl ?_
          refine al_opd rfl rfl rfl (ao_pickT rfl (v := .bool _) rfl) ?_
          refine al_nilT ?_
          refine aw_condT (by rfl) ⟨_, rfl⟩ ?_
          refine aw_seq ?_
          refine aw_region ?_
          refine al_opd rfl rfl rfl (ao_lit0 Tryd.underlying26 Tryd.sizeOf37 Tryd.zeroValue37 (by rfl) (by rfl) rfl) ?_
          refine al_opd rfl rfl rfl (ao_as (v := .slice _ _ _) rfl) ?_
          refine al_opd rfl rfl rfl (ao_as (v := .int _ _) rfl) ?_
          refine al_nilT ?_
          refine aw_ret ?_
          refine thenA_r ?_
          refine ends2 rfl (rv_tmp (v := .slice _ _ _) rfl) (rv_tmp (v := .int _ _) rfl) ?_
          exact ⟨by exact SMp, _, by exact LEp, by exact HLp, fun ρ h => vr_tup2 (vr_sl h (by omega) (by omega)) (.int _ _)⟩
        · try simp only [nrm] at h6_
          refine al_gyes rfl rfl rfl rfl rfl (ao_mv (v := .int _ _) rfl) ?_
          refine al_gyes rfl rfl rfl rfl rfl (ao_geq rfl rfl) ?_
          refine al_opd rfl rfl rfl (ao_pickF rfl (v := .bool _) rfl) ?_
          refine al_nilT ?_
          refine aw_cond rfl (fun h7_ => ?_) (fun h7_ => ?_)
          · try simp only [nrm] at h7_
            refine aw_seq ?_
            refine aw_region ?_
            refine al_opd rfl rfl rfl (ao_lit0 Tryd.underlying26 Tryd.sizeOf37 Tryd.zeroValue37 (by rfl) (by rfl) rfl) ?_
            refine al_opd rfl rfl rfl (ao_as (v := .slice _ _ _) rfl) ?_
            refine al_opd rfl rfl rfl (ao_as (v := .int _ _) rfl) ?_
            refine al_nilT ?_
            refine aw_ret ?_
            refine thenA_r ?_
            refine ends2 rfl (rv_tmp (v := .slice _ _ _) rfl) (rv_tmp (v := .int _ _) rfl) ?_
            exact ⟨by exact SMp, _, by exact LEp, by exact HLp, fun ρ h => vr_tup2 (vr_sl h (by omega) (by omega)) (.int _ _)⟩
          · try simp only [nrm] at h7_
            have hdx := num2_dig (by rw [← h4_]; exact hN1) (show x < 10 by omega)
            have hdy := num2_dig (by rw [← h5_]; exact hN2) (show y < 10 by omega)
            refine aw_skipT ?_
            refine aw_seq ?_
            refine aw_region ?_
            refine al_opd rfl rfl rfl (ao_mv (v := .int _ _) rfl) ?_
            first | refine al_opd rfl rfl rfl ((ao_conv ⟨_, Tryd.underlying2⟩ Tryd.underlying35 rfl).val (nw_i8 BDp BDp)) ?_ | refine al_opd rfl rfl rfl (ao_conv ⟨_, Tryd.underlying2⟩ Tryd.underlying35 rfl) ?_
            refine al_opd rfl rfl rfl (ao_mv (v := .int _ _) rfl) ?_
            first | refine al_opd rfl rfl rfl ((ao_conv ⟨_, Tryd.underlying2⟩ Tryd.underlying35 rfl).val (nw_i8 BDp BDp)) ?_ | refine al_opd rfl rfl rfl (ao_conv ⟨_, Tryd.underlying2⟩ Tryd.underlying35 rfl) ?_
            refine al_opd rfl rfl rfl (ao_build (A := #[.int .i8 x, .int .i8 y]) Tryd.zeroValue37 (by rfl) (by first | rfl | kernel_rfl) (by rfl) (by first | rfl | kernel_rfl)) ?_
            refine al_opd rfl rfl rfl (ao_lit1 (v := .agg _) Tryd.underlying26 Tryd.sizeOf37 Tryd.zeroValue37 (by rfl) (by rfl) rfl rfl (by rfl) (by exact RFp)) ?_
            refine al_opd rfl rfl rfl (ao_as (v := .slice _ _ _) rfl) ?_
            refine al_nilT ?_
            refine aw_seq ?_
            refine aw_seq ?_
            refine aw_region ?_
            refine al_opd rfl rfl rfl (ao_as (v := .int _ _) rfl) ?_
            refine al_nilT ?_
            refine aw_block ?_
            refine aw_loop (fun (gk : Nat) (fr : AFr) (G : AHeap) => ∃ get : Nat → Value, fr = ⟨115, get⟩ ∧ (∃ (i qb n k : Nat), i ≤ w.size ∧ gk = w.size - i ∧ Same H.next H G ∧ H.next + 2 ≤ qb ∧ qb < G.next ∧ G.blk H.next = some (.cells (fl str1 (pcs 32 t)) 1) ∧ G.blk qb = some (.cells (fl spot (pathTo ⟨x, y⟩ w i)) 2) ∧ n = (pathTo ⟨x, y⟩ w i).length ∧ n ≤ k ∧ i ≤ 11 ∧ (∀ (j : Nat) b, j < i → w[j]? = some b → 0 ≤ lt4 b) ∧ get 4 = .slice (some ⟨H.next, 0, none⟩) (pcs 32 t).length ((pcs 32 t).length + 1) ∧ get 10 = .slice (some ⟨qb, 0, none⟩) n k ∧ get 11 = .int .i64 i)) (w.size) ⟨_, rfl, ?_⟩ ?_
            · refine ⟨0, _, 1, _, Nat.zero_le _, rfl, by exact SMp, ?_, ?_, by exact HLp, by exact HLp, rfl, Nat.le_refl _, Nat.zero_le _, fun j b h => by omega, rfl, rfl, rfl⟩ <;> exact LNp
            · rintro gk fr G ⟨get, rfl, i, qb, n, k, hi, rfl, hG, hqb, hlt, hb0, hkb, hn, hk, h11, hlv, g4, g10, g11⟩
              have hni : n = i + 1 := by rw [hn, path_len]
              have hslp : Sl G str1 1 (.slice (some ⟨H.next, 0, none⟩) (pcs 32 t).length ((pcs 32 t).length + 1)) (pcs 32 t) := Sl.full str1_len hb0 rfl rfl rfl
              have hslo : Sl G spot 2 (.slice (some ⟨qb, 0, none⟩) n k) (pathTo ⟨x, y⟩ w i) := Sl.full spot_len hkb rfl rfl hn
              have hxi := path_at ⟨x, y⟩ w (Nat.le_refl i)
              refine aw_slot (d := 4) (v := .slice (some ⟨H.next, 0, none⟩) (pcs 32 t).length ((pcs 32 t).length + 1)) (by first | assumption | rfl) ?_
              refine aw_slot (d := 10) (v := .slice (some ⟨qb, 0, none⟩) n k) (by first | assumption | rfl) ?_
              refine aw_slot (d := 11) (v := .int .i64 i) (by first | assumption | rfl) ?_
              refine aw_seq ?_
              refine aw_seq ?_
              refine aw_region ?_
              refine al_opd rfl rfl rfl (ao_mv (v := .slice _ _ _) rfl) ?_
              first | refine al_opd rfl rfl rfl (ao_lenS Tryd.underlying50 (by rfl)) ?_ | refine al_opd rfl rfl rfl (ao_lenN Tryd.underlying50 (by rfl)) ?_ | refine al_opd rfl rfl rfl (ao_lenV Tryd.underlying50 rfl hsl0) ?_ | refine al_opd rfl rfl rfl (ao_lenV Tryd.underlying50 rfl hsl1) ?_ | refine al_opd rfl rfl rfl (ao_lenV Tryd.underlying50 rfl hslq) ?_ | refine al_opd rfl rfl rfl (ao_lenV Tryd.underlying50 rfl hslp) ?_ | refine al_opd rfl rfl rfl (ao_lenV Tryd.underlying50 rfl hslo) ?_
              refine al_opd rfl rfl rfl (ao_eql rfl rfl) ?_
              refine al_opd rfl rfl rfl (ao_mv (v := .bool _) rfl) ?_
              refine al_cases (d := 77) rfl (fun h8_ => ?_) (fun h8_ => ?_)
              · try simp only [nrm] at h8_
                first | done | omega | (exfalso; revert h8_; simp; (first | done | omega))
              try simp only [nrm] at h8_
              have hil : i = w.size := by omega
              subst hil
              subst hn
              obtain ⟨bp, hbp⟩ := exists_bool (plainF (pathTo ⟨x, y⟩ w w.size))
              refine al_gno rfl rfl rfl rfl rfl ?_
              refine al_gno rfl rfl rfl rfl rfl ?_
              refine al_gno rfl rfl rfl rfl rfl ?_
              refine al_gno rfl rfl rfl rfl rfl ?_
              refine al_gno rfl rfl rfl rfl rfl ?_
              refine al_gno rfl rfl rfl rfl rfl ?_
              refine al_opd rfl rfl rfl (ao_pickF rfl (v := .bool _) rfl) ?_
              refine al_nilT ?_
              refine aw_condF (by rfl) ⟨_, rfl⟩ ?_
              refine aw_exit ?_
              refine thenA_x ?_
              refine thenA_x ?_
              refine blockA_hit ?_
              refine thenA_n ?_
              refine aw_seq ?_
              refine aw_seq ?_
              refine aw_region ?_
              refine al_opd rfl rfl rfl (ao_mv (v := .slice _ _ _) rfl) ?_
              refine al_opd rfl rfl rfl (ao_calld (l02Plain_c (l := (pathTo ⟨x, y⟩ w w.size)) (lb := qb) (c' := k) (b := bp) (by exact HLp) hk (by rw [path_len]; omega) (path_wf ⟨⟨by show (-128 : Int) ≤ x; omega, by show x ≤ (127 : Int); omega⟩, ⟨by show (-128 : Int) ≤ y; omega, by show y ≤ (127 : Int); omega⟩⟩ w _) hbp) Tryd.call14 rfl rfl) ?_
              refine al_opd rfl rfl rfl (ao_not rfl) ?_
              refine al_nilT ?_
              refine aw_cond rfl (fun h9_ => ?_) (fun h9_ => ?_)
              rotate_left
              · try simp only [nrm] at h9_
                exact absurd (read_text hP0 (.inl ⟨hPl, hw0⟩) hQl hQ0 hQ1 hdx.1 hdy.1 hdx.2 hdy.2 hlv) (hno _ (hbp.mp h9_))
              try simp only [nrm] at h9_
              refine aw_seq ?_
              refine aw_region ?_
              refine al_opd rfl rfl rfl (ao_lit0 Tryd.underlying26 Tryd.sizeOf37 Tryd.zeroValue37 (by rfl) (by rfl) rfl) ?_
              refine al_opd rfl rfl rfl (ao_as (v := .slice _ _ _) rfl) ?_
              refine al_opd rfl rfl rfl (ao_as (v := .int _ _) rfl) ?_
              refine al_nilT ?_
              refine aw_ret ?_
              refine thenA_r ?_
              refine ends2 rfl (rv_tmp (v := .slice _ _ _) rfl) (rv_tmp (v := .int _ _) rfl) ?_
              exact ⟨by exact SMp, _, by exact LEp, by exact HLp, fun ρ h => vr_tup2 (vr_sl h (by omega) (by omega)) (.int _ _)⟩

-- spec.ReadFile
theorem specRf03_c {t : ByteArray} {H : AHeap} (hsz : t.size ≤ 1048576) (hPl : 2 < (pcs 32 t).length) : ACd Tryd.prog 10 [.string t] H (.tuple #[.slice (some ⟨H.next, 0, none⟩) 0 0, .int .i64 5]) (H.push (.cells (fl spot []) 2)) := by
  obtain ⟨p0, hP0⟩ := get_lt (show 0 < (pcs 32 t).length by omega)
  have hs0 := pcs_size 32 t hP0
  have hPs := pcs_len 32 t
  have hQs := pcs_len 44 p0
  refine ac_gcs (vrl_fl spot_plain []) (ac_body Tryd.func10 rfl Tryd.ntmps10 rfl ?_)
  refine aw_seq ?_
  refine aw_region ?_
  refine al_opd rfl rfl rfl (ao_as (v := .slice _ _ _) rfl) ?_
  refine al_opd rfl rfl rfl (ao_as (v := .int _ _) rfl) ?_
  refine al_nilT ?_
  refine aw_seq ?_
  refine aw_region ?_
  refine al_opd rfl rfl rfl (ao_mv (v := .string _) rfl) ?_
  refine al_opd rfl rfl rfl (ao_calld (l01Split_c (t := t) (c := 32) (by omega)) Tryd.call24 rfl rfl) ?_
  have hsl0 : Sl (H.push (.cells (fl str1 (pcs 32 t)) 1)) str1 1 (.slice (some ⟨H.next, 0, none⟩) (pcs 32 t).length ((pcs 32 t).length + 1)) (pcs 32 t) := Sl.full str1_len (by exact HLp) rfl rfl rfl
  refine al_opd rfl rfl rfl (ao_as (v := .slice _ _ _) rfl) ?_
  refine al_nilT ?_
  refine aw_seq ?_
  refine aw_region ?_
  refine al_opd rfl rfl rfl (ao_mv (v := .slice _ _ _) rfl) ?_
  first | refine al_opd rfl rfl rfl (ao_indexAddrS Tryd.underlying50 Tryd.sizeOf9 rfl rfl (by exact IXp) (by exact IXp)) ?_ | refine al_opd rfl rfl rfl (ao_indexV Tryd.underlying50 Tryd.sizeOf9 rfl rfl hsl0 (by exact IXp) (by exact IXp)) ?_
  first | refine al_opd rfl rfl rfl (ao_load (v := .string _) Tryd.isAgg9 (by rfl) (by exact HLp) (by rfl) (by exact RFp)) ?_ | refine al_opd rfl rfl rfl (ao_loadV (j := 0) (u := .string _) Tryd.isAgg9 hsl0 rfl rfl hP0 rfl) ?_ | refine al_opd rfl rfl rfl (ao_loadV (j := 1) (u := .string _) Tryd.isAgg9 hsl0 rfl rfl hP0 rfl) ?_
  refine al_opd rfl rfl rfl (ao_calld (l01Split_c (t := p0) (c := 44) (by omega)) Tryd.call24 rfl rfl) ?_
  refine al_opd rfl rfl rfl (ao_as (v := .slice _ _ _) rfl) ?_
  refine al_nilT ?_
  refine aw_seq ?_
  refine aw_seq ?_
  refine aw_region ?_
  refine al_opd rfl rfl rfl (ao_mv (v := .slice _ _ _) rfl) ?_
  first | refine al_opd rfl rfl rfl (ao_lenS Tryd.underlying50 (by rfl)) ?_ | refine al_opd rfl rfl rfl (ao_lenN Tryd.underlying50 (by rfl)) ?_ | refine al_opd rfl rfl rfl (ao_lenV Tryd.underlying50 rfl hsl0) ?_
  refine al_opd rfl rfl rfl (ao_gtr rfl rfl) ?_
  refine al_opd rfl rfl rfl (ao_mv (v := .bool _) rfl) ?_
  refine al_cases (d := 22) rfl (fun h1_ => ?_) (fun h1_ => ?_)
  rotate_left
  · try simp only [nrm] at h1_
    first | done | omega | (exfalso; revert h1_; simp; (first | done | omega))
  try simp only [nrm] at h1_
  refine al_gno rfl rfl rfl rfl rfl ?_
  refine al_gno rfl rfl rfl rfl rfl ?_
  refine al_gno rfl rfl rfl rfl rfl ?_
  refine al_opd rfl rfl rfl (ao_pickT rfl (v := .bool _) rfl) ?_
  refine al_opd rfl rfl rfl (ao_mv (v := .bool _) rfl) ?_
  refine al_gno rfl rfl rfl rfl rfl ?_
  refine al_gno rfl rfl rfl rfl rfl ?_
  refine al_gno rfl rfl rfl rfl rfl ?_
  refine al_gno rfl rfl rfl rfl rfl ?_
  refine al_gnu rfl rfl rfl rfl ?_
  refine al_gnu rfl rfl rfl rfl ?_
  refine al_gnu rfl rfl rfl rfl ?_
  refine al_gnu rfl rfl rfl rfl ?_
  refine al_gno rfl rfl rfl rfl rfl ?_
  refine al_opd rfl rfl rfl (ao_pickT rfl (v := .bool _) rfl) ?_
  refine al_nilT ?_
  refine aw_condT (by rfl) ⟨_, rfl⟩ ?_
  refine aw_seq ?_
  refine aw_region ?_
  refine al_opd rfl rfl rfl (ao_lit0 Tryd.underlying26 Tryd.sizeOf37 Tryd.zeroValue37 (by rfl) (by rfl) rfl) ?_
  refine al_opd rfl rfl rfl (ao_as (v := .slice _ _ _) rfl) ?_
  refine al_opd rfl rfl rfl (ao_as (v := .int _ _) rfl) ?_
  refine al_nilT ?_
  refine aw_ret ?_
  refine thenA_r ?_
  refine ends2 rfl (rv_tmp (v := .slice _ _ _) rfl) (rv_tmp (v := .int _ _) rfl) ?_
  exact ⟨by exact SMp, _, by exact LEp, by exact HLp, fun ρ h => vr_tup2 (vr_sl h (by omega) (by omega)) (.int _ _)⟩

theorem specRf1_c {t : ByteArray} {l : List Spot} {H : AHeap} (hsz : t.size ≤ 1048576) (hv : plainF l) (hq : fileTx l = t) : ACd Tryd.prog 10 [.string t] H (.tuple #[.slice (some ⟨H.next, 0, none⟩) l.length (l.length + 1), .int .i64 0]) (H.push (.cells (fl spot l) 2)) := by
  by_cases h : 2 ≤ l.length
  · exact specRf12_c hsz hv hq h
  · exact specRf11_c hsz hv hq (by have := hv.1.2.1; omega)

theorem specRf0_c {t : ByteArray} {H : AHeap} (hsz : t.size ≤ 1048576) (hno : ∀ l, plainF l → fileTx l ≠ t) : ACd Tryd.prog 10 [.string t] H (.tuple #[.slice (some ⟨H.next, 0, none⟩) 0 0, .int .i64 5]) (H.push (.cells (fl spot []) 2)) := by
  have hp := pcs_pos 32 t
  by_cases h3 : 2 < (pcs 32 t).length
  · exact specRf03_c hsz h3
  · by_cases h2 : (pcs 32 t).length = 2
    · exact specRf02_c hsz hno h2
    · exact specRf01_c hsz hno (by omega)

end Go.Proofs.YtlcfmbaeaieomaaDoor
