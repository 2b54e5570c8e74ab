/- Contracts of the program's functions over abstract heaps. -/
import Derived.Test.YthibmgkmkhpbdaaDoorReadR
import Derived.Test.YthibmgkmkhpbdaaDoorGs
namespace Go.Proofs.YthibmgkmkhpbdaaDoor
open Go Go.AW Go.Proofs
set_option linter.unusedVariables false
set_option linter.unusedSimpArgs false
set_option maxRecDepth 100000
set_option maxHeartbeats 2000000

-- strings.Split
theorem splitS_c {t : ByteArray} {c : UInt8} {H : AHeap} (hsz : t.size ≤ 1048576) : ACd Tryd.prog 10 [.string t, .string ⟨#[c]⟩] H (.slice (some ⟨H.next, 0, none⟩) (pcs c t).length ((pcs c t).length + 1)) (H.push (.cells (fl str1 (pcs c t)) 1)) := by
  refine ac_gcs (vrl_fl str1_plain _) (ac_body Tryd.func10 rfl Tryd.ntmps10 rfl ?_)
  refine aw_seq ?_
  refine aw_region ?_
  refine al_opd rfl rfl rfl (ao_as (v := .slice _ _ _) rfl) ?_
  refine al_nilT ?_
  refine aw_seq ?_
  refine aw_region ?_
  refine al_opd rfl rfl rfl (ao_mv (v := .string _) rfl) ?_
  refine al_opd rfl rfl rfl (ao_mv (v := .string _) rfl) ?_
  refine al_opd rfl rfl rfl (ao_calld (genSplit_c (s := t) (c := c) (by omega)) Tryd.call17 rfl rfl) ?_
  refine al_opd rfl rfl rfl (ao_as (v := .slice _ _ _) rfl) ?_
  refine al_nilT ?_
  refine aw_ret ?_
  refine ends1 rfl (rv_tmp (v := .slice _ _ _) rfl) ?_
  exact ⟨by exact SMp, _, by exact LEp, by exact HLp, fun ρ h => vr_sl h (by omega) (by omega)⟩

-- spec.l01Split
theorem l01Split_c {t : ByteArray} {c : UInt8} {H : AHeap} (hsz : t.size ≤ 1048576) : ACd Tryd.prog 7 [.string t, .int .u8 (c.toNat : Int)] H (.slice (some ⟨H.next, 0, none⟩) (pcs c t).length ((pcs c t).length + 1)) (H.push (.cells (fl str1 (pcs c t)) 1)) := by
  refine ac_gcs (vrl_fl str1_plain _) (ac_body Tryd.func7 rfl Tryd.ntmps7 rfl ?_)
  refine aw_seq ?_
  refine aw_region ?_
  refine al_opd rfl rfl rfl (ao_as (v := .slice _ _ _) rfl) ?_
  refine al_nilT ?_
  refine aw_seq ?_
  refine aw_region ?_
  refine al_opd rfl rfl rfl (ao_lit0 Tryd.underlying31 Tryd.sizeOf9 Tryd.zeroValue9 (by rfl) (by rfl) rfl) ?_
  refine al_opd rfl rfl rfl (ao_as (v := .slice _ _ _) rfl) ?_
  refine al_nilT ?_
  refine aw_seq ?_
  refine aw_region ?_
  refine al_opd rfl rfl rfl (ao_as (v := .int _ _) rfl) ?_
  refine al_nilT ?_
  refine aw_seq ?_
  refine aw_seq ?_
  refine aw_region ?_
  refine al_opd rfl rfl rfl (ao_as (v := .int _ _) rfl) ?_
  refine al_nilT ?_
  refine aw_block ?_
  refine aw_loop (fun (gk : Nat) (fr : AFr) (G : AHeap) => ∃ get : Nat → Value, fr = ⟨35, get⟩ ∧ (∃ (i b qb n k : Nat) (out : List ByteArray), gk = t.size - i ∧ cutTo c t out b i ∧ Same H.next H G ∧ H.next ≤ qb ∧ qb < G.next ∧ G.blk qb = some (.cells (fl str1 out) 1) ∧ n = out.length ∧ n ≤ k ∧ get 0 = .string t ∧ get 1 = .int .u8 (c.toNat : Int) ∧ get 5 = .slice (some ⟨qb, 0, none⟩) n k ∧ get 6 = .int .i64 b ∧ get 7 = .int .i64 i)) (t.size) ⟨_, rfl, ?_⟩ ?_
  · refine ⟨0, 0, _, 0, _, [], rfl, cutTo_init c t, by exact SMp, ?_, ?_, by exact HLp, rfl, Nat.le_refl _, rfl, rfl, rfl, rfl, rfl⟩ <;> exact LNp
  · rintro gk fr G ⟨get, rfl, i, b, qb, n, k, out, rfl, hct, hG, hqb, hlt, hkb, hn, hk, g0, g1, g5, g6, g7⟩
    have ⟨hc1, hc2, _, _⟩ := hct
    have hol := cutTo_len hct
    refine aw_slot (d := 0) (v := .string t) (by first | assumption | rfl) ?_
    refine aw_slot (d := 1) (v := .int .u8 (c.toNat : Int)) (by first | assumption | rfl) ?_
    refine aw_slot (d := 5) (v := .slice (some ⟨qb, 0, none⟩) n k) (by first | assumption | rfl) ?_
    refine aw_slot (d := 6) (v := .int .i64 b) (by first | assumption | rfl) ?_
    refine aw_slot (d := 7) (v := .int .i64 i) (by first | assumption | rfl) ?_
    refine aw_seq ?_
    refine aw_seq ?_
    refine aw_region ?_
    refine al_opd rfl rfl rfl (ao_mv (v := .int _ _) rfl) ?_
    refine al_opd rfl rfl rfl (ao_mv (v := .string _) rfl) ?_
    refine al_opd rfl rfl rfl (ao_lenStr Tryd.underlying9 (by rfl)) ?_
    refine al_opd rfl rfl rfl (ao_lss rfl rfl) ?_
    refine al_nilT ?_
    refine aw_cond rfl (fun h1_ => ?_) (fun h1_ => ?_)
    · try simp only [nrm] at h1_
      obtain ⟨d, hd⟩ := strAt (show i < t.size by omega)
      refine aw_skipT ?_
      refine aw_seq ?_
      refine aw_block ?_
      refine aw_seq ?_
      refine aw_region ?_
      refine al_opd rfl rfl rfl (ao_mv (v := .string _) rfl) ?_
      refine al_opd rfl rfl rfl (ao_mv (v := .int _ _) rfl) ?_
      refine al_opd rfl rfl rfl (ao_indexStr Tryd.underlying9 (by rfl) (by rfl) (by first | rfl | omega) (by assumption)) ?_
      refine al_opd rfl rfl rfl (ao_mv (v := .int _ _) rfl) ?_
      refine al_opd rfl rfl rfl (ao_eql rfl rfl) ?_
      refine al_nilT ?_
      refine aw_cond rfl (fun h2_ => ?_) (fun h2_ => ?_)
      · try simp only [nrm] at h2_
        refine aw_seq ?_
        refine aw_region ?_
        refine al_opd rfl rfl rfl (ao_mv (v := .slice _ _ _) rfl) ?_
        refine al_opd rfl rfl rfl (ao_mv (v := .string _) rfl) ?_
        refine al_opd rfl rfl rfl (ao_mv (v := .int _ _) rfl) ?_
        refine al_opd rfl rfl rfl (ao_mv (v := .int _ _) rfl) ?_
        refine al_opd rfl rfl rfl (ao_sliceStr2 Tryd.underlying9 (by rfl) (by rfl) (by rfl) (by first | rfl | omega) (by first | rfl | omega) (by exact IXp) (by exact IXp)) ?_
        refine al_opd rfl rfl rfl (ao_lit1 (v := .string _) Tryd.underlying31 Tryd.sizeOf9 Tryd.zeroValue9 (by rfl) (by rfl) rfl rfl (by rfl) (by exact RFp)) ?_
        refine al_opd rfl rfl rfl (ao_appC Tryd.underlying31 ⟨_, Tryd.underlying31⟩ elem9 (by rfl) (by rfl) (by exact HLp) (by (rw [fl_len str1_len, ← hn]; omega)) (by exact SCp) (by first | rfl | simp [isOne]) (by exact BDp) (by exact BDp)) ?_
        refine al_opd rfl rfl rfl (ao_as (v := .slice _ _ _) rfl) ?_
        refine al_nilT ?_
        refine aw_region ?_
        refine al_opd rfl rfl rfl (ao_mv (v := .int _ _) rfl) ?_
        first | refine al_opd rfl rfl rfl ((ao_add rfl rfl).val (nw_i64 BDp BDp)) ?_ | refine al_opd rfl rfl rfl (ao_add rfl rfl) ?_
        refine al_opd rfl rfl rfl (ao_as (v := .int _ _) rfl) ?_
        refine al_nilB ?_
        refine thenA_n ?_
        refine aw_region ?_
        refine al_opd rfl rfl rfl (ao_mv (v := .int _ _) rfl) ?_
        first | refine al_opd rfl rfl rfl ((ao_add rfl rfl).val (nw_i64 BDp BDp)) ?_ | refine al_opd rfl rfl rfl (ao_add rfl rfl) ?_
        refine al_opd rfl rfl rfl (ao_as (v := .int _ _) rfl) ?_
        refine al_nilT ?_
        obtain rfl := u8_eq.mp h2_
        refine ⟨_, ?_, _, rfl, i + 1, i + 1, _, n + 1, _, _, rfl, cutTo_hit hct hd, by exact SMp, ?_, ?_, by rw [fl_snoc]; exact (by exact HLp), by rw [List.length_append, ← hn]; rfl, Nat.le_succ _, rfl, rfl, rfl, by rfl, by rfl⟩
        · omega
        · exact LNp
        · exact LNp
      · try simp only [nrm] at h2_
        refine aw_skipB ?_
        refine thenA_n ?_
        refine aw_region ?_
        refine al_opd rfl rfl rfl (ao_mv (v := .int _ _) rfl) ?_
        first | refine al_opd rfl rfl rfl ((ao_add rfl rfl).val (nw_i64 BDp BDp)) ?_ | refine al_opd rfl rfl rfl (ao_add rfl rfl) ?_
        refine al_opd rfl rfl rfl (ao_as (v := .int _ _) rfl) ?_
        refine al_nilT ?_
        exact ⟨_, by omega, _, rfl, i + 1, b, qb, n, k, out, rfl, cutTo_miss hct hd (fun e => h2_ (u8_eq.mpr e)), by exact SMp, hqb, by first | omega | (simp only [next_push, next_set, next_kill]; omega), by exact HLp, hn, hk, rfl, rfl, rfl, rfl, by rfl⟩
    · try simp only [nrm] at h1_
      obtain rfl : i = t.size := by omega
      refine aw_exit ?_
      refine thenA_x ?_
      refine thenA_x ?_
      refine blockA_hit ?_
      refine thenA_n ?_
      refine aw_seq ?_
      refine aw_region ?_
      refine al_opd rfl rfl rfl (ao_mv (v := .slice _ _ _) rfl) ?_
      refine al_opd rfl rfl rfl (ao_mv (v := .string _) rfl) ?_
      refine al_opd rfl rfl rfl (ao_mv (v := .int _ _) rfl) ?_
      refine al_opd rfl rfl rfl (ao_sliceStrLo Tryd.underlying9 (by rfl) (by rfl) (by first | rfl | omega) (by exact IXp)) ?_
      refine al_opd rfl rfl rfl (ao_lit1 (v := .string _) Tryd.underlying31 Tryd.sizeOf9 Tryd.zeroValue9 (by rfl) (by rfl) rfl rfl (by rfl) (by exact RFp)) ?_
      refine al_opd rfl rfl rfl (ao_appC Tryd.underlying31 ⟨_, Tryd.underlying31⟩ elem9 (by rfl) (by rfl) (by exact HLp) (by (rw [fl_len str1_len, ← hn]; omega)) (by exact SCp) (by first | rfl | simp [isOne]) (by exact BDp) (by exact BDp)) ?_
      refine al_opd rfl rfl rfl (ao_as (v := .slice _ _ _) rfl) ?_
      refine al_nilT ?_
      refine aw_ret ?_
      refine ends1 rfl (rv_tmp (v := .slice _ _ _) rfl) ?_
      have he := cutTo_end hct
      have hle : (pcs c t).length = n + 1 := by rw [← he, List.length_append, ← hn]; rfl
      rw [hle, ← he, fl_snoc]
      exact ⟨by exact SMp, _, by exact LEp, by exact HLp, fun ρ h => vr_sl h (by omega) (by omega)⟩

end Go.Proofs.YthibmgkmkhpbdaaDoor
