/- Contracts of the program's functions over abstract heaps. -/
import Derived.Test.YtdcmjbaahcipoaaLaws
import Derived.Test.YtdcmjbaahcipoaaOk
namespace Go.Proofs.Ytdcmjbaahcipoaa
open Go Go.AW Go.Proofs
set_option linter.unusedVariables false
set_option linter.unusedSimpArgs false
set_option maxRecDepth 100000
set_option maxHeartbeats 2000000

-- spec.l03Holds
theorem l03Holds_c {L : Int} {v w : Value} {ks : List Int} {hs : List Hold} {b : Bool} {pb : Nat} {H : AHeap} (ha : Sl H i16 1 v ks) (hh : Sl H hold 2 w hs) (hp : H.blk pb = some (.cells [.int .i16 L, v] 1)) (hlen : ks.length ≤ 4194304) (hn : hs.length ≤ 4194304) (hL : -32768 ≤ L ∧ L ≤ 32767) (hw : holdOk hs) (hb : b = true ↔ okRope L ks ∧ okHolds ks.length hs) : ACd Try.prog 30 [.pointer (some ⟨pb, 0, none⟩), w] H (.bool b) (H) := by
  obtain ⟨b1, hb1⟩ := exists_bool (okRope L ks)
  refine ac_gc0 (fun β => VR.plainT β (by first | rfl | simp [plainT, plainV, plain1])) (ac_body Try.func30 rfl Try.ntmps30 rfl ?_)
  refine aw_seq ?_
  refine aw_region ?_
  refine al_opd rfl rfl rfl (ao_as (v := .bool _) rfl) ?_
  refine al_nilT ?_
  refine aw_seq ?_
  refine aw_seq ?_
  refine aw_region ?_
  refine al_opd rfl rfl rfl (ao_mv (v := .pointer _) rfl) ?_
  refine al_opd rfl rfl rfl (ao_calld (l03Ok_c (L := L) (v := v) (ks := ks) (b := b1) ha hlen hp hL hb1) Try.call20 rfl rfl) ?_
  refine al_opd rfl rfl rfl (ao_not rfl) ?_
  refine al_nilT ?_
  refine aw_cond rfl (fun h1_ => ?_) (fun h1_ => ?_)
  · try simp only [nrm] at h1_
    refine aw_seq ?_
    refine aw_region ?_
    refine al_opd rfl rfl rfl (ao_as (v := .bool _) rfl) ?_
    refine al_nilT ?_
    refine aw_ret ?_
    refine thenA_r ?_
    refine ends1 rfl (rv_tmp (v := .bool _) rfl) ?_
    exact ⟨bf hb (fun ⟨q1, q2⟩ => by rw [hb1.mpr q1] at h1_; simp at h1_), by exact SMp⟩
  · try simp only [nrm] at h1_
    have hr := hb1.mp (by first | assumption | simpa using h1_)
    have ⟨v1, v2, v3, v4, v5, v6, v7⟩ := hr
    refine aw_skipT ?_
    refine aw_seq ?_
    refine aw_seq ?_
    refine aw_region ?_
    refine al_opd rfl rfl rfl (ao_as (v := .int _ _) rfl) ?_
    refine al_nilT ?_
    refine aw_block ?_
    refine aw_loop (fun (gk : Nat) (fr : AFr) (G : AHeap) => ∃ get : Nat → Value, fr = ⟨72, get⟩ ∧ (∃ i : Nat, i ≤ hs.length ∧ gk = hs.length - i ∧ H = G ∧ get 0 = .pointer (some ⟨pb, 0, none⟩) ∧ get 1 = w ∧ get 5 = .int .i64 i ∧ ∀ j, j < i → goodAt ks.length hs j)) (hs.length) ⟨_, rfl, ?_⟩ ?_
    · exact ⟨0, Nat.zero_le _, rfl, rfl, rfl, rfl, rfl, fun j h => by omega⟩
    · rintro gk fr G ⟨get, rfl, i, hi, rfl, rfl, g0, g1, g5, hq⟩
      refine aw_slot (d := 0) (v := .pointer (some ⟨pb, 0, none⟩)) (by first | assumption | rfl) ?_
      refine aw_slot (d := 1) (v := w) (by first | assumption | rfl) ?_
      refine aw_slot (d := 5) (v := .int .i64 i) (by first | assumption | rfl) ?_
      refine aw_seq ?_
      refine aw_seq ?_
      refine aw_region ?_
      refine al_opd rfl rfl rfl (ao_mv (v := .int _ _) rfl) ?_
      first | refine al_opd rfl rfl rfl (ao_mv (v := .slice _ _ _) rfl) ?_ | refine al_opd rfl rfl rfl (ao_mv (v := v) rfl) ?_ | refine al_opd rfl rfl rfl (ao_mv (v := w) rfl) ?_
      first | refine al_opd rfl rfl rfl (ao_lenS Try.underlying36 (by rfl)) ?_ | refine al_opd rfl rfl rfl (ao_lenN Try.underlying36 (by rfl)) ?_ | refine al_opd rfl rfl rfl (ao_lenV Try.underlying36 rfl ha) ?_ | refine al_opd rfl rfl rfl (ao_lenV Try.underlying36 rfl hh) ?_
      refine al_opd rfl rfl rfl (ao_lss rfl rfl) ?_
      refine al_nilT ?_
      refine aw_cond rfl (fun h2_ => ?_) (fun h2_ => ?_)
      · try simp only [nrm] at h2_
        obtain ⟨x, hx⟩ := get_lt (show i < hs.length by omega)
        have ⟨bx1, bx2⟩ := hw x (List.mem_of_getElem? hx)
        refine aw_skipT ?_
        refine aw_seq ?_
        refine aw_block ?_
        refine aw_seq ?_
        refine aw_seq ?_
        refine aw_draw (m := 24) mo (by kernel_rfl) rfl (fun _ _ _ h => h) ?_
        first | refine dw_opd rfl rfl rfl (ao_mv (v := .slice _ _ _) rfl) ?_ | refine dw_opd rfl rfl rfl (ao_mv (v := v) rfl) ?_ | refine dw_opd rfl rfl rfl (ao_mv (v := w) rfl) ?_
        refine dw_opd rfl rfl rfl (ao_mv (v := .int _ _) rfl) ?_
        first | refine dw_opd rfl rfl rfl (ao_indexAddrS Try.underlying36 Try.sizeOf54 rfl rfl (by exact IXp) (by exact IXp)) ?_ | refine dw_opd rfl rfl rfl (ao_indexV Try.underlying36 Try.sizeOf54 rfl rfl ha (by exact IXp) (by exact IXp)) ?_ | refine dw_opd rfl rfl rfl (ao_indexV Try.underlying36 Try.sizeOf54 rfl rfl hh (by exact IXp) (by exact IXp)) ?_
        refine dw_opd rfl rfl rfl (ao_fieldAddr fo_54_0 rfl) ?_
        first | refine dw_opd rfl rfl rfl (ao_load (v := .int _ _) Try.isAgg22 (by rfl) (by exact HLp) (by rfl) (by exact RFp)) ?_ | refine dw_opd rfl rfl rfl (ao_loadV (j := 0) (u := .int _ _) Try.isAgg22 ha rfl rfl hx rfl) ?_ | refine dw_opd rfl rfl rfl (ao_loadV (j := 1) (u := .int _ _) Try.isAgg22 ha rfl rfl hx rfl) ?_ | refine dw_opd rfl rfl rfl (ao_loadV (j := 0) (u := .int _ _) Try.isAgg22 ha rfl rfl hy rfl) ?_ | refine dw_opd rfl rfl rfl (ao_loadV (j := 1) (u := .int _ _) Try.isAgg22 ha rfl rfl hy rfl) ?_ | refine dw_opd rfl rfl rfl (ao_loadV (j := 0) (u := .int _ _) Try.isAgg22 ha rfl rfl hz rfl) ?_ | refine dw_opd rfl rfl rfl (ao_loadV (j := 1) (u := .int _ _) Try.isAgg22 ha rfl rfl hz rfl) ?_ | refine dw_opd rfl rfl rfl (ao_loadV (j := 0) (u := .int _ _) Try.isAgg22 hh rfl rfl hx rfl) ?_ | refine dw_opd rfl rfl rfl (ao_loadV (j := 1) (u := .int _ _) Try.isAgg22 hh rfl rfl hx rfl) ?_ | refine dw_opd rfl rfl rfl (ao_loadV (j := 0) (u := .int _ _) Try.isAgg22 hh rfl rfl hy rfl) ?_ | refine dw_opd rfl rfl rfl (ao_loadV (j := 1) (u := .int _ _) Try.isAgg22 hh rfl rfl hy rfl) ?_ | refine dw_opd rfl rfl rfl (ao_loadV (j := 0) (u := .int _ _) Try.isAgg22 hh rfl rfl hz rfl) ?_ | refine dw_opd rfl rfl rfl (ao_loadV (j := 1) (u := .int _ _) Try.isAgg22 hh rfl rfl hz rfl) ?_
        first | refine dw_opd rfl rfl rfl ((ao_conv ⟨_, Try.underlying22⟩ Try.underlying2 rfl).val (nw_i64 BDp BDp)) ?_ | refine dw_opd rfl rfl rfl (ao_conv ⟨_, Try.underlying22⟩ Try.underlying2 rfl) ?_
        refine dw_opd rfl rfl rfl (ao_calld (l00In_c) Try.call21 rfl rfl) ?_
        refine dw_opd rfl rfl rfl (ao_not rfl) ?_
        refine dw_opd rfl rfl rfl (ao_mv (v := .bool _) rfl) ?_
        refine dw_cases (d := 24) rfl (fun h3_ => ?_) (fun h3_ => ?_)
        · try simp only [nrm] at h3_
          refine dw_gno rfl rfl rfl rfl rfl rfl ?_
          refine dw_gno rfl rfl rfl rfl rfl rfl ?_
          refine dw_gno rfl rfl rfl rfl rfl rfl ?_
          refine dw_gno rfl rfl rfl rfl rfl rfl ?_
          refine dw_gno rfl rfl rfl rfl rfl rfl ?_
          refine dw_gno rfl rfl rfl rfl rfl rfl ?_
          refine dw_gno rfl rfl rfl rfl rfl rfl ?_
          refine dw_gno rfl rfl rfl rfl rfl rfl ?_
          refine dw_gno rfl rfl rfl rfl rfl rfl ?_
          refine dw_gno rfl rfl rfl rfl rfl rfl ?_
          refine dw_gno rfl rfl rfl rfl rfl rfl ?_
          refine dw_gno rfl rfl rfl rfl rfl rfl ?_
          refine dw_gno rfl rfl rfl rfl rfl rfl ?_
          refine dw_gno rfl rfl rfl rfl rfl rfl ?_
          refine dw_opd rfl rfl rfl (ao_pickT rfl (v := .bool _) rfl) ?_
          refine dw_end ?_
          refine al_nilT ?_
          refine aw_condT (by rfl) ⟨_, rfl⟩ ?_
          refine aw_seq ?_
          refine aw_region ?_
          refine al_opd rfl rfl rfl (ao_as (v := .bool _) rfl) ?_
          refine al_nilT ?_
          refine aw_ret ?_
          refine thenA_r ?_
          refine blockA_r ?_
          refine thenA_r ?_
          refine thenA_r ?_
          refine blockA_r ?_
          refine thenA_r ?_
          refine ends1 rfl (rv_tmp (v := .bool _) rfl) ?_
          exact ⟨bf hb (fun ⟨q1, q2⟩ => by have ⟨⟨r1, r2, r3, r4⟩, _⟩ := q2 i x hx; omega), by exact SMp⟩
        · try simp only [nrm] at h3_
          first | refine dw_gyes rfl rfl rfl rfl rfl (ao_mv (v := .slice _ _ _) rfl) ?_ | refine dw_gyes rfl rfl rfl rfl rfl (ao_mv (v := v) rfl) ?_ | refine dw_gyes rfl rfl rfl rfl rfl (ao_mv (v := w) rfl) ?_
          refine dw_gyes rfl rfl rfl rfl rfl (ao_mv (v := .int _ _) rfl) ?_
          first | refine dw_gyes rfl rfl rfl rfl rfl (ao_indexAddrS Try.underlying36 Try.sizeOf54 rfl rfl (by exact IXp) (by exact IXp)) ?_ | refine dw_gyes rfl rfl rfl rfl rfl (ao_indexV Try.underlying36 Try.sizeOf54 rfl rfl ha (by exact IXp) (by exact IXp)) ?_ | refine dw_gyes rfl rfl rfl rfl rfl (ao_indexV Try.underlying36 Try.sizeOf54 rfl rfl hh (by exact IXp) (by exact IXp)) ?_
          refine dw_gyes rfl rfl rfl rfl rfl (ao_fieldAddr fo_54_1 rfl) ?_
          first | refine dw_gyes rfl rfl rfl rfl rfl (ao_load (v := .int _ _) Try.isAgg52 (by rfl) (by exact HLp) (by rfl) (by exact RFp)) ?_ | refine dw_gyes rfl rfl rfl rfl rfl (ao_loadV (j := 0) (u := .int _ _) Try.isAgg52 ha rfl rfl hx rfl) ?_ | refine dw_gyes rfl rfl rfl rfl rfl (ao_loadV (j := 1) (u := .int _ _) Try.isAgg52 ha rfl rfl hx rfl) ?_ | refine dw_gyes rfl rfl rfl rfl rfl (ao_loadV (j := 0) (u := .int _ _) Try.isAgg52 ha rfl rfl hy rfl) ?_ | refine dw_gyes rfl rfl rfl rfl rfl (ao_loadV (j := 1) (u := .int _ _) Try.isAgg52 ha rfl rfl hy rfl) ?_ | refine dw_gyes rfl rfl rfl rfl rfl (ao_loadV (j := 0) (u := .int _ _) Try.isAgg52 ha rfl rfl hz rfl) ?_ | refine dw_gyes rfl rfl rfl rfl rfl (ao_loadV (j := 1) (u := .int _ _) Try.isAgg52 ha rfl rfl hz rfl) ?_ | refine dw_gyes rfl rfl rfl rfl rfl (ao_loadV (j := 0) (u := .int _ _) Try.isAgg52 hh rfl rfl hx rfl) ?_ | refine dw_gyes rfl rfl rfl rfl rfl (ao_loadV (j := 1) (u := .int _ _) Try.isAgg52 hh rfl rfl hx rfl) ?_ | refine dw_gyes rfl rfl rfl rfl rfl (ao_loadV (j := 0) (u := .int _ _) Try.isAgg52 hh rfl rfl hy rfl) ?_ | refine dw_gyes rfl rfl rfl rfl rfl (ao_loadV (j := 1) (u := .int _ _) Try.isAgg52 hh rfl rfl hy rfl) ?_ | refine dw_gyes rfl rfl rfl rfl rfl (ao_loadV (j := 0) (u := .int _ _) Try.isAgg52 hh rfl rfl hz rfl) ?_ | refine dw_gyes rfl rfl rfl rfl rfl (ao_loadV (j := 1) (u := .int _ _) Try.isAgg52 hh rfl rfl hz rfl) ?_
          first | refine dw_gyes rfl rfl rfl rfl rfl ((ao_conv ⟨_, Try.underlying52⟩ Try.underlying2 rfl).val (nw_i64 BDp BDp)) ?_ | refine dw_gyes rfl rfl rfl rfl rfl (ao_conv ⟨_, Try.underlying52⟩ Try.underlying2 rfl) ?_
          refine dw_gyes rfl rfl rfl rfl rfl (ao_mv (v := .pointer _) rfl) ?_
          refine dw_gyes rfl rfl rfl rfl rfl (ao_nilCheck rfl) ?_
          refine dw_gyes rfl rfl rfl rfl rfl (ao_fieldAddr fo_27_1 rfl) ?_
          first | refine dw_gyes rfl rfl rfl rfl rfl (ao_load (v := .slice _ _ _) Try.isAgg23 (by rfl) (by exact HLp) (by rfl) (by exact RFp)) ?_ | refine dw_gyes rfl rfl rfl rfl rfl (ao_load (v := v) Try.isAgg23 (by rfl) (by exact HLp) (by rfl) (by exact RFp)) ?_ | refine dw_gyes rfl rfl rfl rfl rfl (ao_load (v := w) Try.isAgg23 (by rfl) (by exact HLp) (by rfl) (by exact RFp)) ?_ | refine dw_gyes rfl rfl rfl rfl rfl (ao_loadV (j := 0) (u := .slice _ _ _) Try.isAgg23 ha rfl rfl hx rfl) ?_ | refine dw_gyes rfl rfl rfl rfl rfl (ao_loadV (j := 1) (u := .slice _ _ _) Try.isAgg23 ha rfl rfl hx rfl) ?_ | refine dw_gyes rfl rfl rfl rfl rfl (ao_loadV (j := 0) (u := .slice _ _ _) Try.isAgg23 ha rfl rfl hy rfl) ?_ | refine dw_gyes rfl rfl rfl rfl rfl (ao_loadV (j := 1) (u := .slice _ _ _) Try.isAgg23 ha rfl rfl hy rfl) ?_ | refine dw_gyes rfl rfl rfl rfl rfl (ao_loadV (j := 0) (u := .slice _ _ _) Try.isAgg23 ha rfl rfl hz rfl) ?_ | refine dw_gyes rfl rfl rfl rfl rfl (ao_loadV (j := 1) (u := .slice _ _ _) Try.isAgg23 ha rfl rfl hz rfl) ?_ | refine dw_gyes rfl rfl rfl rfl rfl (ao_loadV (j := 0) (u := .slice _ _ _) Try.isAgg23 hh rfl rfl hx rfl) ?_ | refine dw_gyes rfl rfl rfl rfl rfl (ao_loadV (j := 1) (u := .slice _ _ _) Try.isAgg23 hh rfl rfl hx rfl) ?_ | refine dw_gyes rfl rfl rfl rfl rfl (ao_loadV (j := 0) (u := .slice _ _ _) Try.isAgg23 hh rfl rfl hy rfl) ?_ | refine dw_gyes rfl rfl rfl rfl rfl (ao_loadV (j := 1) (u := .slice _ _ _) Try.isAgg23 hh rfl rfl hy rfl) ?_ | refine dw_gyes rfl rfl rfl rfl rfl (ao_loadV (j := 0) (u := .slice _ _ _) Try.isAgg23 hh rfl rfl hz rfl) ?_ | refine dw_gyes rfl rfl rfl rfl rfl (ao_loadV (j := 1) (u := .slice _ _ _) Try.isAgg23 hh rfl rfl hz rfl) ?_
          first | refine dw_gyes rfl rfl rfl rfl rfl (ao_lenS Try.underlying23 (by rfl)) ?_ | refine dw_gyes rfl rfl rfl rfl rfl (ao_lenN Try.underlying23 (by rfl)) ?_ | refine dw_gyes rfl rfl rfl rfl rfl (ao_lenV Try.underlying23 rfl ha) ?_ | refine dw_gyes rfl rfl rfl rfl rfl (ao_lenV Try.underlying23 rfl hh) ?_
          refine dw_gyes rfl rfl rfl rfl rfl ((ao_sub rfl rfl).val (nw_i64 (by omega) (by omega))) ?_
          refine dw_gyes rfl rfl rfl rfl rfl (ao_calld (l00In_c) Try.call21 rfl rfl) ?_
          refine dw_gyes rfl rfl rfl rfl rfl (ao_not rfl) ?_
          refine dw_opd rfl rfl rfl (ao_pickF rfl (v := .bool _) rfl) ?_
          refine dw_end ?_
          refine al_nilT ?_
          refine aw_cond rfl (fun h4_ => ?_) (fun h4_ => ?_)
          · try simp only [nrm] at h4_
            refine aw_seq ?_
            refine aw_region ?_
            refine al_opd rfl rfl rfl (ao_as (v := .bool _) rfl) ?_
            refine al_nilT ?_
            refine aw_ret ?_
            refine thenA_r ?_
            refine blockA_r ?_
            refine thenA_r ?_
            refine thenA_r ?_
            refine blockA_r ?_
            refine thenA_r ?_
            refine ends1 rfl (rv_tmp (v := .bool _) rfl) ?_
            exact ⟨bf hb (fun ⟨q1, q2⟩ => by have ⟨⟨r1, r2, r3, r4⟩, _⟩ := q2 i x hx; omega), by exact SMp⟩
          · try simp only [nrm] at h4_
            refine aw_skipT ?_
            refine aw_seq ?_
            refine aw_seq ?_
            refine aw_draw (m := 16) mo (by kernel_rfl) rfl (fun _ _ _ h => h) ?_
            refine dw_opd rfl rfl rfl (ao_mv (v := .int _ _) rfl) ?_
            refine dw_opd rfl rfl rfl (ao_gtr rfl rfl) ?_
            refine dw_opd rfl rfl rfl (ao_mv (v := .bool _) rfl) ?_
            refine dw_cases (d := 42) rfl (fun h5_ => ?_) (fun h5_ => ?_)
            · try simp only [nrm] at h5_
              obtain ⟨y, hy⟩ := get_lt (show i - 1 < hs.length by omega)
              first | refine dw_gyes rfl rfl rfl rfl rfl (ao_mv (v := .slice _ _ _) rfl) ?_ | refine dw_gyes rfl rfl rfl rfl rfl (ao_mv (v := v) rfl) ?_ | refine dw_gyes rfl rfl rfl rfl rfl (ao_mv (v := w) rfl) ?_
              refine dw_gyes rfl rfl rfl rfl rfl (ao_mv (v := .int _ _) rfl) ?_
              first | refine dw_gyes rfl rfl rfl rfl rfl (ao_indexAddrS Try.underlying36 Try.sizeOf54 rfl rfl (by exact IXp) (by exact IXp)) ?_ | refine dw_gyes rfl rfl rfl rfl rfl (ao_indexV Try.underlying36 Try.sizeOf54 rfl rfl ha (by exact IXp) (by exact IXp)) ?_ | refine dw_gyes rfl rfl rfl rfl rfl (ao_indexV Try.underlying36 Try.sizeOf54 rfl rfl hh (by exact IXp) (by exact IXp)) ?_
              refine dw_gyes rfl rfl rfl rfl rfl (ao_fieldAddr fo_54_1 rfl) ?_
              first | refine dw_gyes rfl rfl rfl rfl rfl (ao_load (v := .int _ _) Try.isAgg52 (by rfl) (by exact HLp) (by rfl) (by exact RFp)) ?_ | refine dw_gyes rfl rfl rfl rfl rfl (ao_loadV (j := 0) (u := .int _ _) Try.isAgg52 ha rfl rfl hx rfl) ?_ | refine dw_gyes rfl rfl rfl rfl rfl (ao_loadV (j := 1) (u := .int _ _) Try.isAgg52 ha rfl rfl hx rfl) ?_ | refine dw_gyes rfl rfl rfl rfl rfl (ao_loadV (j := 0) (u := .int _ _) Try.isAgg52 ha rfl rfl hy rfl) ?_ | refine dw_gyes rfl rfl rfl rfl rfl (ao_loadV (j := 1) (u := .int _ _) Try.isAgg52 ha rfl rfl hy rfl) ?_ | refine dw_gyes rfl rfl rfl rfl rfl (ao_loadV (j := 0) (u := .int _ _) Try.isAgg52 ha rfl rfl hz rfl) ?_ | refine dw_gyes rfl rfl rfl rfl rfl (ao_loadV (j := 1) (u := .int _ _) Try.isAgg52 ha rfl rfl hz rfl) ?_ | refine dw_gyes rfl rfl rfl rfl rfl (ao_loadV (j := 0) (u := .int _ _) Try.isAgg52 hh rfl rfl hx rfl) ?_ | refine dw_gyes rfl rfl rfl rfl rfl (ao_loadV (j := 1) (u := .int _ _) Try.isAgg52 hh rfl rfl hx rfl) ?_ | refine dw_gyes rfl rfl rfl rfl rfl (ao_loadV (j := 0) (u := .int _ _) Try.isAgg52 hh rfl rfl hy rfl) ?_ | refine dw_gyes rfl rfl rfl rfl rfl (ao_loadV (j := 1) (u := .int _ _) Try.isAgg52 hh rfl rfl hy rfl) ?_ | refine dw_gyes rfl rfl rfl rfl rfl (ao_loadV (j := 0) (u := .int _ _) Try.isAgg52 hh rfl rfl hz rfl) ?_ | refine dw_gyes rfl rfl rfl rfl rfl (ao_loadV (j := 1) (u := .int _ _) Try.isAgg52 hh rfl rfl hz rfl) ?_
              first | refine dw_gyes rfl rfl rfl rfl rfl (ao_mv (v := .slice _ _ _) rfl) ?_ | refine dw_gyes rfl rfl rfl rfl rfl (ao_mv (v := v) rfl) ?_ | refine dw_gyes rfl rfl rfl rfl rfl (ao_mv (v := w) rfl) ?_
              refine dw_gyes rfl rfl rfl rfl rfl (ao_mv (v := .int _ _) rfl) ?_
              refine dw_gyes rfl rfl rfl rfl rfl ((ao_sub rfl rfl).val (subn i (by omega) (by omega))) ?_
              first | refine dw_gyes rfl rfl rfl rfl rfl (ao_indexAddrS Try.underlying36 Try.sizeOf54 rfl rfl (by exact IXp) (by exact IXp)) ?_ | refine dw_gyes rfl rfl rfl rfl rfl (ao_indexV Try.underlying36 Try.sizeOf54 rfl rfl ha (by exact IXp) (by exact IXp)) ?_ | refine dw_gyes rfl rfl rfl rfl rfl (ao_indexV Try.underlying36 Try.sizeOf54 rfl rfl hh (by exact IXp) (by exact IXp)) ?_
              refine dw_gyes rfl rfl rfl rfl rfl (ao_fieldAddr fo_54_1 rfl) ?_
              first | refine dw_gyes rfl rfl rfl rfl rfl (ao_load (v := .int _ _) Try.isAgg52 (by rfl) (by exact HLp) (by rfl) (by exact RFp)) ?_ | refine dw_gyes rfl rfl rfl rfl rfl (ao_loadV (j := 0) (u := .int _ _) Try.isAgg52 ha rfl rfl hx rfl) ?_ | refine dw_gyes rfl rfl rfl rfl rfl (ao_loadV (j := 1) (u := .int _ _) Try.isAgg52 ha rfl rfl hx rfl) ?_ | refine dw_gyes rfl rfl rfl rfl rfl (ao_loadV (j := 0) (u := .int _ _) Try.isAgg52 ha rfl rfl hy rfl) ?_ | refine dw_gyes rfl rfl rfl rfl rfl (ao_loadV (j := 1) (u := .int _ _) Try.isAgg52 ha rfl rfl hy rfl) ?_ | refine dw_gyes rfl rfl rfl rfl rfl (ao_loadV (j := 0) (u := .int _ _) Try.isAgg52 ha rfl rfl hz rfl) ?_ | refine dw_gyes rfl rfl rfl rfl rfl (ao_loadV (j := 1) (u := .int _ _) Try.isAgg52 ha rfl rfl hz rfl) ?_ | refine dw_gyes rfl rfl rfl rfl rfl (ao_loadV (j := 0) (u := .int _ _) Try.isAgg52 hh rfl rfl hx rfl) ?_ | refine dw_gyes rfl rfl rfl rfl rfl (ao_loadV (j := 1) (u := .int _ _) Try.isAgg52 hh rfl rfl hx rfl) ?_ | refine dw_gyes rfl rfl rfl rfl rfl (ao_loadV (j := 0) (u := .int _ _) Try.isAgg52 hh rfl rfl hy rfl) ?_ | refine dw_gyes rfl rfl rfl rfl rfl (ao_loadV (j := 1) (u := .int _ _) Try.isAgg52 hh rfl rfl hy rfl) ?_ | refine dw_gyes rfl rfl rfl rfl rfl (ao_loadV (j := 0) (u := .int _ _) Try.isAgg52 hh rfl rfl hz rfl) ?_ | refine dw_gyes rfl rfl rfl rfl rfl (ao_loadV (j := 1) (u := .int _ _) Try.isAgg52 hh rfl rfl hz rfl) ?_
              refine dw_gyes rfl rfl rfl rfl rfl (ao_leq rfl rfl) ?_
              refine dw_opd rfl rfl rfl (ao_pickT rfl (v := .bool _) rfl) ?_
              refine dw_end ?_
              refine al_nilT ?_
              refine aw_cond rfl (fun h6_ => ?_) (fun h6_ => ?_)
              · try simp only [nrm] at h6_
                refine aw_seq ?_
                refine aw_region ?_
                refine al_opd rfl rfl rfl (ao_as (v := .bool _) rfl) ?_
                refine al_nilT ?_
                refine aw_ret ?_
                refine thenA_r ?_
                refine blockA_r ?_
                refine thenA_r ?_
                refine thenA_r ?_
                refine blockA_r ?_
                refine thenA_r ?_
                refine ends1 rfl (rv_tmp (v := .bool _) rfl) ?_
                exact ⟨bf hb (fun ⟨q1, q2⟩ => by have := (q2 i x hx).2.1 (i - 1) y (by omega) hy; omega), by exact SMp⟩
              · try simp only [nrm] at h6_
                refine aw_skipT ?_
                refine aw_seq ?_
                refine aw_region ?_
                refine al_opd rfl rfl rfl (ao_as (v := .int _ _) rfl) ?_
                refine al_nilT ?_
                refine aw_block ?_
                refine aw_loop (fun (gk : Nat) (fr : AFr) (G : AHeap) => ∃ get : Nat → Value, fr = ⟨72, get⟩ ∧ (∃ k : Nat, k ≤ i ∧ gk = i - k ∧ H = G ∧ get 0 = .pointer (some ⟨pb, 0, none⟩) ∧ get 1 = w ∧ get 5 = .int .i64 i ∧ get 6 = .int .i64 k ∧ ∀ (j : Nat) y, j < k → hs[j]? = some y → y.who ≠ x.who)) (i) ⟨_, rfl, ?_⟩ ?_
                · exact ⟨0, Nat.zero_le _, rfl, rfl, rfl, rfl, rfl, rfl, fun j y h => by omega⟩
                · rintro gk fr G ⟨get, rfl, k, hk, rfl, rfl, g0, g1, g5, g6, hq2⟩
                  refine aw_slot (d := 0) (v := .pointer (some ⟨pb, 0, none⟩)) (by first | assumption | rfl) ?_
                  refine aw_slot (d := 1) (v := w) (by first | assumption | rfl) ?_
                  refine aw_slot (d := 5) (v := .int .i64 i) (by first | assumption | rfl) ?_
                  refine aw_slot (d := 6) (v := .int .i64 k) (by first | assumption | rfl) ?_
                  refine aw_seq ?_
                  refine aw_seq ?_
                  refine aw_region ?_
                  refine al_opd rfl rfl rfl (ao_mv (v := .int _ _) rfl) ?_
                  refine al_opd rfl rfl rfl (ao_mv (v := .int _ _) rfl) ?_
                  refine al_opd rfl rfl rfl (ao_lss rfl rfl) ?_
                  refine al_nilT ?_
                  refine aw_cond rfl (fun h7_ => ?_) (fun h7_ => ?_)
                  · try simp only [nrm] at h7_
                    obtain ⟨z, hz⟩ := get_lt (show k < hs.length by omega)
                    refine aw_skipT ?_
                    refine aw_seq ?_
                    refine aw_block ?_
                    refine aw_seq ?_
                    refine aw_draw (m := 11) mo (by kernel_rfl) rfl (fun _ _ _ h => h) ?_
                    first | refine dw_opd rfl rfl rfl (ao_mv (v := .slice _ _ _) rfl) ?_ | refine dw_opd rfl rfl rfl (ao_mv (v := v) rfl) ?_ | refine dw_opd rfl rfl rfl (ao_mv (v := w) rfl) ?_
                    refine dw_opd rfl rfl rfl (ao_mv (v := .int _ _) rfl) ?_
                    first | refine dw_opd rfl rfl rfl (ao_indexAddrS Try.underlying36 Try.sizeOf54 rfl rfl (by exact IXp) (by exact IXp)) ?_ | refine dw_opd rfl rfl rfl (ao_indexV Try.underlying36 Try.sizeOf54 rfl rfl ha (by exact IXp) (by exact IXp)) ?_ | refine dw_opd rfl rfl rfl (ao_indexV Try.underlying36 Try.sizeOf54 rfl rfl hh (by exact IXp) (by exact IXp)) ?_
                    refine dw_opd rfl rfl rfl (ao_fieldAddr fo_54_0 rfl) ?_
                    first | refine dw_opd rfl rfl rfl (ao_load (v := .int _ _) Try.isAgg22 (by rfl) (by exact HLp) (by rfl) (by exact RFp)) ?_ | refine dw_opd rfl rfl rfl (ao_loadV (j := 0) (u := .int _ _) Try.isAgg22 ha rfl rfl hx rfl) ?_ | refine dw_opd rfl rfl rfl (ao_loadV (j := 1) (u := .int _ _) Try.isAgg22 ha rfl rfl hx rfl) ?_ | refine dw_opd rfl rfl rfl (ao_loadV (j := 0) (u := .int _ _) Try.isAgg22 ha rfl rfl hy rfl) ?_ | refine dw_opd rfl rfl rfl (ao_loadV (j := 1) (u := .int _ _) Try.isAgg22 ha rfl rfl hy rfl) ?_ | refine dw_opd rfl rfl rfl (ao_loadV (j := 0) (u := .int _ _) Try.isAgg22 ha rfl rfl hz rfl) ?_ | refine dw_opd rfl rfl rfl (ao_loadV (j := 1) (u := .int _ _) Try.isAgg22 ha rfl rfl hz rfl) ?_ | refine dw_opd rfl rfl rfl (ao_loadV (j := 0) (u := .int _ _) Try.isAgg22 hh rfl rfl hx rfl) ?_ | refine dw_opd rfl rfl rfl (ao_loadV (j := 1) (u := .int _ _) Try.isAgg22 hh rfl rfl hx rfl) ?_ | refine dw_opd rfl rfl rfl (ao_loadV (j := 0) (u := .int _ _) Try.isAgg22 hh rfl rfl hy rfl) ?_ | refine dw_opd rfl rfl rfl (ao_loadV (j := 1) (u := .int _ _) Try.isAgg22 hh rfl rfl hy rfl) ?_ | refine dw_opd rfl rfl rfl (ao_loadV (j := 0) (u := .int _ _) Try.isAgg22 hh rfl rfl hz rfl) ?_ | refine dw_opd rfl rfl rfl (ao_loadV (j := 1) (u := .int _ _) Try.isAgg22 hh rfl rfl hz rfl) ?_
                    first | refine dw_opd rfl rfl rfl (ao_mv (v := .slice _ _ _) rfl) ?_ | refine dw_opd rfl rfl rfl (ao_mv (v := v) rfl) ?_ | refine dw_opd rfl rfl rfl (ao_mv (v := w) rfl) ?_
                    refine dw_opd rfl rfl rfl (ao_mv (v := .int _ _) rfl) ?_
                    first | refine dw_opd rfl rfl rfl (ao_indexAddrS Try.underlying36 Try.sizeOf54 rfl rfl (by exact IXp) (by exact IXp)) ?_ | refine dw_opd rfl rfl rfl (ao_indexV Try.underlying36 Try.sizeOf54 rfl rfl ha (by exact IXp) (by exact IXp)) ?_ | refine dw_opd rfl rfl rfl (ao_indexV Try.underlying36 Try.sizeOf54 rfl rfl hh (by exact IXp) (by exact IXp)) ?_
                    refine dw_opd rfl rfl rfl (ao_fieldAddr fo_54_0 rfl) ?_
                    first | refine dw_opd rfl rfl rfl (ao_load (v := .int _ _) Try.isAgg22 (by rfl) (by exact HLp) (by rfl) (by exact RFp)) ?_ | refine dw_opd rfl rfl rfl (ao_loadV (j := 0) (u := .int _ _) Try.isAgg22 ha rfl rfl hx rfl) ?_ | refine dw_opd rfl rfl rfl (ao_loadV (j := 1) (u := .int _ _) Try.isAgg22 ha rfl rfl hx rfl) ?_ | refine dw_opd rfl rfl rfl (ao_loadV (j := 0) (u := .int _ _) Try.isAgg22 ha rfl rfl hy rfl) ?_ | refine dw_opd rfl rfl rfl (ao_loadV (j := 1) (u := .int _ _) Try.isAgg22 ha rfl rfl hy rfl) ?_ | refine dw_opd rfl rfl rfl (ao_loadV (j := 0) (u := .int _ _) Try.isAgg22 ha rfl rfl hz rfl) ?_ | refine dw_opd rfl rfl rfl (ao_loadV (j := 1) (u := .int _ _) Try.isAgg22 ha rfl rfl hz rfl) ?_ | refine dw_opd rfl rfl rfl (ao_loadV (j := 0) (u := .int _ _) Try.isAgg22 hh rfl rfl hx rfl) ?_ | refine dw_opd rfl rfl rfl (ao_loadV (j := 1) (u := .int _ _) Try.isAgg22 hh rfl rfl hx rfl) ?_ | refine dw_opd rfl rfl rfl (ao_loadV (j := 0) (u := .int _ _) Try.isAgg22 hh rfl rfl hy rfl) ?_ | refine dw_opd rfl rfl rfl (ao_loadV (j := 1) (u := .int _ _) Try.isAgg22 hh rfl rfl hy rfl) ?_ | refine dw_opd rfl rfl rfl (ao_loadV (j := 0) (u := .int _ _) Try.isAgg22 hh rfl rfl hz rfl) ?_ | refine dw_opd rfl rfl rfl (ao_loadV (j := 1) (u := .int _ _) Try.isAgg22 hh rfl rfl hz rfl) ?_
                    refine dw_opd rfl rfl rfl (ao_eql rfl rfl) ?_
                    refine dw_end ?_
                    refine al_nilT ?_
                    refine aw_cond rfl (fun h8_ => ?_) (fun h8_ => ?_)
                    · try simp only [nrm] at h8_
                      refine aw_seq ?_
                      refine aw_region ?_
                      refine al_opd rfl rfl rfl (ao_as (v := .bool _) rfl) ?_
                      refine al_nilT ?_
                      refine aw_ret ?_
                      refine blockA_r ?_
                      refine thenA_r ?_
                      refine thenA_r ?_
                      refine blockA_r ?_
                      refine blockA_r ?_
                      refine thenA_r ?_
                      refine thenA_r ?_
                      refine blockA_r ?_
                      refine thenA_r ?_
                      refine ends1 rfl (rv_tmp (v := .bool _) rfl) ?_
                      exact ⟨bf hb (fun ⟨q1, q2⟩ => by exact (q2 i x hx).2.2 k z (by omega) hz h8_), by exact SMp⟩
                    · try simp only [nrm] at h8_
                      refine aw_skipB ?_
                      refine thenA_n ?_
                      refine aw_region ?_
                      refine al_opd rfl rfl rfl (ao_mv (v := .int _ _) rfl) ?_
                      first | refine al_opd rfl rfl rfl ((ao_add rfl rfl).val (nw_i64 BDp BDp)) ?_ | refine al_opd rfl rfl rfl (ao_add rfl rfl) ?_
                      refine al_opd rfl rfl rfl (ao_as (v := .int _ _) rfl) ?_
                      refine al_nilT ?_
                      refine ⟨_, ?_, _, rfl, k + 1, by omega, rfl, rfl, rfl, rfl, rfl, by rfl, fun j y' hj hy' => ?_⟩
                      · omega
                      · rcases Nat.lt_or_ge j k with h9 | h9
                        · exact hq2 j y' h9 hy'
                        · obtain rfl : j = k := by omega
                          rw [hz] at hy'; cases hy'; assumption
                  · try simp only [nrm] at h7_
                    refine aw_exit ?_
                    refine thenA_x ?_
                    refine thenA_x ?_
                    refine blockA_hit ?_
                    refine blockA_n ?_
                    refine thenA_n ?_
                    refine aw_region ?_
                    refine al_opd rfl rfl rfl (ao_mv (v := .int _ _) rfl) ?_
                    first | refine al_opd rfl rfl rfl ((ao_add rfl rfl).val (nw_i64 BDp BDp)) ?_ | refine al_opd rfl rfl rfl (ao_add rfl rfl) ?_
                    refine al_opd rfl rfl rfl (ao_as (v := .int _ _) rfl) ?_
                    refine al_nilT ?_
                    refine ⟨_, ?_, _, rfl, i + 1, by omega, rfl, rfl, rfl, rfl, by rfl, fun j hj => ?_⟩
                    · omega
                    · rcases Nat.lt_or_ge j i with h9 | h9
                      · exact hq j h9
                      · obtain rfl : j = i := by omega
                        intro x' hx'; rw [hx] at hx'; cases hx'
                        refine ⟨⟨by omega, by omega, by omega, by omega⟩, fun j' y' e hy' => ?_, fun j' y' hj' hy' => hq2 j' y' (by omega) hy'⟩
                        first | (exfalso; omega) | (rw [show j' = j - 1 by omega, hy] at hy'; cases hy'; omega)
            · try simp only [nrm] at h5_
              refine dw_gno rfl rfl rfl rfl rfl rfl ?_
              refine dw_gno rfl rfl rfl rfl rfl rfl ?_
              refine dw_gno rfl rfl rfl rfl rfl rfl ?_
              refine dw_gno rfl rfl rfl rfl rfl rfl ?_
              refine dw_gno rfl rfl rfl rfl rfl rfl ?_
              refine dw_gno rfl rfl rfl rfl rfl rfl ?_
              refine dw_gno rfl rfl rfl rfl rfl rfl ?_
              refine dw_gno rfl rfl rfl rfl rfl rfl ?_
              refine dw_gno rfl rfl rfl rfl rfl rfl ?_
              refine dw_gno rfl rfl rfl rfl rfl rfl ?_
              refine dw_gno rfl rfl rfl rfl rfl rfl ?_
              refine dw_gno rfl rfl rfl rfl rfl rfl ?_
              refine dw_opd rfl rfl rfl (ao_pickF rfl (v := .bool _) rfl) ?_
              refine dw_end ?_
              refine al_nilT ?_
              refine aw_condF (by rfl) ⟨_, rfl⟩ ?_
              refine aw_skipT ?_
              refine aw_seq ?_
              refine aw_region ?_
              refine al_opd rfl rfl rfl (ao_as (v := .int _ _) rfl) ?_
              refine al_nilT ?_
              refine aw_block ?_
              refine aw_loop (fun (gk : Nat) (fr : AFr) (G : AHeap) => ∃ get : Nat → Value, fr = ⟨72, get⟩ ∧ (∃ k : Nat, k ≤ i ∧ gk = i - k ∧ H = G ∧ get 0 = .pointer (some ⟨pb, 0, none⟩) ∧ get 1 = w ∧ get 5 = .int .i64 i ∧ get 6 = .int .i64 k ∧ ∀ (j : Nat) y, j < k → hs[j]? = some y → y.who ≠ x.who)) (i) ⟨_, rfl, ?_⟩ ?_
              · exact ⟨0, Nat.zero_le _, rfl, rfl, rfl, rfl, rfl, rfl, fun j y h => by omega⟩
              · rintro gk fr G ⟨get, rfl, k, hk, rfl, rfl, g0, g1, g5, g6, hq2⟩
                refine aw_slot (d := 0) (v := .pointer (some ⟨pb, 0, none⟩)) (by first | assumption | rfl) ?_
                refine aw_slot (d := 1) (v := w) (by first | assumption | rfl) ?_
                refine aw_slot (d := 5) (v := .int .i64 i) (by first | assumption | rfl) ?_
                refine aw_slot (d := 6) (v := .int .i64 k) (by first | assumption | rfl) ?_
                refine aw_seq ?_
                refine aw_seq ?_
                refine aw_region ?_
                refine al_opd rfl rfl rfl (ao_mv (v := .int _ _) rfl) ?_
                refine al_opd rfl rfl rfl (ao_mv (v := .int _ _) rfl) ?_
                refine al_opd rfl rfl rfl (ao_lss rfl rfl) ?_
                refine al_nilT ?_
                refine aw_cond rfl (fun h9_ => ?_) (fun h9_ => ?_)
                · try simp only [nrm] at h9_
                  obtain ⟨z, hz⟩ := get_lt (show k < hs.length by omega)
                  refine aw_skipT ?_
                  refine aw_seq ?_
                  refine aw_block ?_
                  refine aw_seq ?_
                  refine aw_draw (m := 11) mo (by kernel_rfl) rfl (fun _ _ _ h => h) ?_
                  first | refine dw_opd rfl rfl rfl (ao_mv (v := .slice _ _ _) rfl) ?_ | refine dw_opd rfl rfl rfl (ao_mv (v := v) rfl) ?_ | refine dw_opd rfl rfl rfl (ao_mv (v := w) rfl) ?_
                  refine dw_opd rfl rfl rfl (ao_mv (v := .int _ _) rfl) ?_
                  first | refine dw_opd rfl rfl rfl (ao_indexAddrS Try.underlying36 Try.sizeOf54 rfl rfl (by exact IXp) (by exact IXp)) ?_ | refine dw_opd rfl rfl rfl (ao_indexV Try.underlying36 Try.sizeOf54 rfl rfl ha (by exact IXp) (by exact IXp)) ?_ | refine dw_opd rfl rfl rfl (ao_indexV Try.underlying36 Try.sizeOf54 rfl rfl hh (by exact IXp) (by exact IXp)) ?_
                  refine dw_opd rfl rfl rfl (ao_fieldAddr fo_54_0 rfl) ?_
                  first | refine dw_opd rfl rfl rfl (ao_load (v := .int _ _) Try.isAgg22 (by rfl) (by exact HLp) (by rfl) (by exact RFp)) ?_ | refine dw_opd rfl rfl rfl (ao_loadV (j := 0) (u := .int _ _) Try.isAgg22 ha rfl rfl hx rfl) ?_ | refine dw_opd rfl rfl rfl (ao_loadV (j := 1) (u := .int _ _) Try.isAgg22 ha rfl rfl hx rfl) ?_ | refine dw_opd rfl rfl rfl (ao_loadV (j := 0) (u := .int _ _) Try.isAgg22 ha rfl rfl hy rfl) ?_ | refine dw_opd rfl rfl rfl (ao_loadV (j := 1) (u := .int _ _) Try.isAgg22 ha rfl rfl hy rfl) ?_ | refine dw_opd rfl rfl rfl (ao_loadV (j := 0) (u := .int _ _) Try.isAgg22 ha rfl rfl hz rfl) ?_ | refine dw_opd rfl rfl rfl (ao_loadV (j := 1) (u := .int _ _) Try.isAgg22 ha rfl rfl hz rfl) ?_ | refine dw_opd rfl rfl rfl (ao_loadV (j := 0) (u := .int _ _) Try.isAgg22 hh rfl rfl hx rfl) ?_ | refine dw_opd rfl rfl rfl (ao_loadV (j := 1) (u := .int _ _) Try.isAgg22 hh rfl rfl hx rfl) ?_ | refine dw_opd rfl rfl rfl (ao_loadV (j := 0) (u := .int _ _) Try.isAgg22 hh rfl rfl hy rfl) ?_ | refine dw_opd rfl rfl rfl (ao_loadV (j := 1) (u := .int _ _) Try.isAgg22 hh rfl rfl hy rfl) ?_ | refine dw_opd rfl rfl rfl (ao_loadV (j := 0) (u := .int _ _) Try.isAgg22 hh rfl rfl hz rfl) ?_ | refine dw_opd rfl rfl rfl (ao_loadV (j := 1) (u := .int _ _) Try.isAgg22 hh rfl rfl hz rfl) ?_
                  first | refine dw_opd rfl rfl rfl (ao_mv (v := .slice _ _ _) rfl) ?_ | refine dw_opd rfl rfl rfl (ao_mv (v := v) rfl) ?_ | refine dw_opd rfl rfl rfl (ao_mv (v := w) rfl) ?_
                  refine dw_opd rfl rfl rfl (ao_mv (v := .int _ _) rfl) ?_
                  first | refine dw_opd rfl rfl rfl (ao_indexAddrS Try.underlying36 Try.sizeOf54 rfl rfl (by exact IXp) (by exact IXp)) ?_ | refine dw_opd rfl rfl rfl (ao_indexV Try.underlying36 Try.sizeOf54 rfl rfl ha (by exact IXp) (by exact IXp)) ?_ | refine dw_opd rfl rfl rfl (ao_indexV Try.underlying36 Try.sizeOf54 rfl rfl hh (by exact IXp) (by exact IXp)) ?_
                  refine dw_opd rfl rfl rfl (ao_fieldAddr fo_54_0 rfl) ?_
                  first | refine dw_opd rfl rfl rfl (ao_load (v := .int _ _) Try.isAgg22 (by rfl) (by exact HLp) (by rfl) (by exact RFp)) ?_ | refine dw_opd rfl rfl rfl (ao_loadV (j := 0) (u := .int _ _) Try.isAgg22 ha rfl rfl hx rfl) ?_ | refine dw_opd rfl rfl rfl (ao_loadV (j := 1) (u := .int _ _) Try.isAgg22 ha rfl rfl hx rfl) ?_ | refine dw_opd rfl rfl rfl (ao_loadV (j := 0) (u := .int _ _) Try.isAgg22 ha rfl rfl hy rfl) ?_ | refine dw_opd rfl rfl rfl (ao_loadV (j := 1) (u := .int _ _) Try.isAgg22 ha rfl rfl hy rfl) ?_ | refine dw_opd rfl rfl rfl (ao_loadV (j := 0) (u := .int _ _) Try.isAgg22 ha rfl rfl hz rfl) ?_ | refine dw_opd rfl rfl rfl (ao_loadV (j := 1) (u := .int _ _) Try.isAgg22 ha rfl rfl hz rfl) ?_ | refine dw_opd rfl rfl rfl (ao_loadV (j := 0) (u := .int _ _) Try.isAgg22 hh rfl rfl hx rfl) ?_ | refine dw_opd rfl rfl rfl (ao_loadV (j := 1) (u := .int _ _) Try.isAgg22 hh rfl rfl hx rfl) ?_ | refine dw_opd rfl rfl rfl (ao_loadV (j := 0) (u := .int _ _) Try.isAgg22 hh rfl rfl hy rfl) ?_ | refine dw_opd rfl rfl rfl (ao_loadV (j := 1) (u := .int _ _) Try.isAgg22 hh rfl rfl hy rfl) ?_ | refine dw_opd rfl rfl rfl (ao_loadV (j := 0) (u := .int _ _) Try.isAgg22 hh rfl rfl hz rfl) ?_ | refine dw_opd rfl rfl rfl (ao_loadV (j := 1) (u := .int _ _) Try.isAgg22 hh rfl rfl hz rfl) ?_
                  refine dw_opd rfl rfl rfl (ao_eql rfl rfl) ?_
                  refine dw_end ?_
                  refine al_nilT ?_
                  refine aw_cond rfl (fun h10_ => ?_) (fun h10_ => ?_)
                  · try simp only [nrm] at h10_
                    refine aw_seq ?_
                    refine aw_region ?_
                    refine al_opd rfl rfl rfl (ao_as (v := .bool _) rfl) ?_
                    refine al_nilT ?_
                    refine aw_ret ?_
                    refine blockA_r ?_
                    refine thenA_r ?_
                    refine thenA_r ?_
                    refine blockA_r ?_
                    refine blockA_r ?_
                    refine thenA_r ?_
                    refine thenA_r ?_
                    refine blockA_r ?_
                    refine thenA_r ?_
                    refine ends1 rfl (rv_tmp (v := .bool _) rfl) ?_
                    exact ⟨bf hb (fun ⟨q1, q2⟩ => by exact (q2 i x hx).2.2 k z (by omega) hz h10_), by exact SMp⟩
                  · try simp only [nrm] at h10_
                    refine aw_skipB ?_
                    refine thenA_n ?_
                    refine aw_region ?_
                    refine al_opd rfl rfl rfl (ao_mv (v := .int _ _) rfl) ?_
                    first | refine al_opd rfl rfl rfl ((ao_add rfl rfl).val (nw_i64 BDp BDp)) ?_ | refine al_opd rfl rfl rfl (ao_add rfl rfl) ?_
                    refine al_opd rfl rfl rfl (ao_as (v := .int _ _) rfl) ?_
                    refine al_nilT ?_
                    refine ⟨_, ?_, _, rfl, k + 1, by omega, rfl, rfl, rfl, rfl, rfl, by rfl, fun j y' hj hy' => ?_⟩
                    · omega
                    · rcases Nat.lt_or_ge j k with h9 | h9
                      · exact hq2 j y' h9 hy'
                      · obtain rfl : j = k := by omega
                        rw [hz] at hy'; cases hy'; assumption
                · try simp only [nrm] at h9_
                  refine aw_exit ?_
                  refine thenA_x ?_
                  refine thenA_x ?_
                  refine blockA_hit ?_
                  refine blockA_n ?_
                  refine thenA_n ?_
                  refine aw_region ?_
                  refine al_opd rfl rfl rfl (ao_mv (v := .int _ _) rfl) ?_
                  first | refine al_opd rfl rfl rfl ((ao_add rfl rfl).val (nw_i64 BDp BDp)) ?_ | refine al_opd rfl rfl rfl (ao_add rfl rfl) ?_
                  refine al_opd rfl rfl rfl (ao_as (v := .int _ _) rfl) ?_
                  refine al_nilT ?_
                  refine ⟨_, ?_, _, rfl, i + 1, by omega, rfl, rfl, rfl, rfl, by rfl, fun j hj => ?_⟩
                  · omega
                  · rcases Nat.lt_or_ge j i with h9 | h9
                    · exact hq j h9
                    · obtain rfl : j = i := by omega
                      intro x' hx'; rw [hx] at hx'; cases hx'
                      refine ⟨⟨by omega, by omega, by omega, by omega⟩, fun j' y' e hy' => ?_, fun j' y' hj' hy' => hq2 j' y' (by omega) hy'⟩
                      first | (exfalso; omega) | (rw [show j' = j - 1 by omega, hy] at hy'; cases hy'; omega)
      · try simp only [nrm] at h2_
        refine aw_exit ?_
        refine thenA_x ?_
        refine thenA_x ?_
        refine blockA_hit ?_
        refine thenA_n ?_
        refine aw_seq ?_
        refine aw_region ?_
        refine al_opd rfl rfl rfl (ao_as (v := .bool _) rfl) ?_
        refine al_nilT ?_
        refine aw_ret ?_
        refine ends1 rfl (rv_tmp (v := .bool _) rfl) ?_
        exact ⟨bt hb ⟨hr, fun j x hx => hq j (by have := (List.getElem?_eq_some_iff.mp hx).1; omega) x hx⟩, by exact SMp⟩

-- (impl.Rope).isHold
theorem isHold_c {L : Int} {v : Value} {ks : List Int} {x : Hold} {b : Bool} {H : AHeap} (ha : Sl H i16 1 v ks) (hlen : ks.length ≤ 4194304) (hx : (-32768 ≤ x.who ∧ x.who ≤ 32767) ∧ (-128 ≤ x.knot ∧ x.knot ≤ 127)) (hb : b = true ↔ inRange ks.length x) : ACd Try.prog 36 [.agg #[.int .i16 L, v], .agg #[.int .i16 x.who, .int .i8 x.knot]] H (.bool b) (H) := by
  have ⟨bx1, bx2⟩ := hx
  refine ac_gc0 (fun β => VR.plainT β (by first | rfl | simp [plainT, plainV, plain1])) (ac_body Try.func36 rfl Try.ntmps36 rfl ?_)
  refine aw_seq ?_
  refine aw_region ?_
  refine al_opd rfl rfl rfl (ao_boxa (by rfl)) ?_
  refine al_opd rfl rfl rfl (ao_boxa (by rfl)) ?_
  refine al_opd rfl rfl rfl (ao_as (v := .bool _) rfl) ?_
  refine al_nilT ?_
  refine aw_seq ?_
  refine aw_draw (m := 15) mo (by kernel_rfl) rfl (fun _ _ _ h => h) ?_
  refine dw_opd rfl rfl rfl (ao_fieldAddr fo_54_0 rfl) ?_
  refine dw_opd rfl rfl rfl (ao_load (v := .int _ _) Try.isAgg22 (by rfl) (by exact HLp) (by rfl) (by exact RFp)) ?_
  first | refine dw_opd rfl rfl rfl ((ao_conv ⟨_, Try.underlying22⟩ Try.underlying2 rfl).val (nw_i64 BDp BDp)) ?_ | refine dw_opd rfl rfl rfl (ao_conv ⟨_, Try.underlying22⟩ Try.underlying2 rfl) ?_
  refine dw_opd rfl rfl rfl (ao_calld (within_c) Try.call25 rfl rfl) ?_
  refine dw_opd rfl rfl rfl (ao_mv (v := .bool _) rfl) ?_
  refine dw_cases (d := 9) rfl (fun h1_ => ?_) (fun h1_ => ?_)
  · try simp only [nrm] at h1_
    refine dw_gyes rfl rfl rfl rfl rfl (ao_fieldAddr fo_54_1 rfl) ?_
    refine dw_gyes rfl rfl rfl rfl rfl (ao_load (v := .int _ _) Try.isAgg52 (by rfl) (by exact HLp) (by rfl) (by exact RFp)) ?_
    first | refine dw_gyes rfl rfl rfl rfl rfl ((ao_conv ⟨_, Try.underlying52⟩ Try.underlying2 rfl).val (nw_i64 BDp BDp)) ?_ | refine dw_gyes rfl rfl rfl rfl rfl (ao_conv ⟨_, Try.underlying52⟩ Try.underlying2 rfl) ?_
    refine dw_gyes rfl rfl rfl rfl rfl (ao_fieldAddr fo_27_1 rfl) ?_
    first | refine dw_gyes rfl rfl rfl rfl rfl (ao_load (v := .slice _ _ _) Try.isAgg23 (by rfl) (by exact HLp) (by rfl) (by exact RFp)) ?_ | refine dw_gyes rfl rfl rfl rfl rfl (ao_load (v := v) Try.isAgg23 (by rfl) (by exact HLp) (by rfl) (by exact RFp)) ?_
    refine dw_gyes rfl rfl rfl rfl rfl (ao_calld (sizeI16_c (v := v) (l := ks) (ha.mono (by exact SMp))) Try.call23 rfl rfl) ?_
    first | refine dw_gyes rfl rfl rfl rfl rfl ((ao_sub rfl rfl).val (nw_i64 BDp BDp)) ?_ | refine dw_gyes rfl rfl rfl rfl rfl (ao_sub rfl rfl) ?_
    refine dw_gyes rfl rfl rfl rfl rfl (ao_calld (within_c) Try.call25 rfl rfl) ?_
    refine dw_opd rfl rfl rfl (ao_pickT rfl (v := .bool _) rfl) ?_
    refine dw_opd rfl rfl rfl (ao_as (v := .bool _) rfl) ?_
    refine dw_end ?_
    refine al_nilT ?_
    refine aw_ret ?_
    refine ends1 rfl (rv_tmp (v := .bool _) rfl) ?_
    exact ⟨beqv hb (by simp only [Bool.and_eq_true, decide_eq_true_eq]; unfold inRange; omega), by exact SMp⟩
  · try simp only [nrm] at h1_
    refine dw_gno rfl rfl rfl rfl rfl rfl ?_
    refine dw_gno rfl rfl rfl rfl rfl rfl ?_
    refine dw_gno rfl rfl rfl rfl rfl rfl ?_
    refine dw_gno rfl rfl rfl rfl rfl rfl ?_
    refine dw_gno rfl rfl rfl rfl rfl rfl ?_
    refine dw_gno rfl rfl rfl rfl rfl rfl ?_
    refine dw_gno rfl rfl rfl rfl rfl rfl ?_
    refine dw_gno rfl rfl rfl rfl rfl rfl ?_
    refine dw_opd rfl rfl rfl (ao_pickF rfl (v := .bool _) rfl) ?_
    refine dw_opd rfl rfl rfl (ao_as (v := .bool _) rfl) ?_
    refine dw_end ?_
    refine al_nilT ?_
    refine aw_ret ?_
    refine ends1 rfl (rv_tmp (v := .bool _) rfl) ?_
    exact ⟨bf hb (by unfold inRange; omega), by exact SMp⟩

-- impl.ValidHolds$1
theorem vh1_c {x y : Hold} {qb : Nat} {H : AHeap} (hq : H.blk qb = some (.cells [.int .i16 x.who, .int .i8 x.knot] 1)) : ACd Try.prog 38 [.agg #[.int .i16 y.who, .int .i8 y.knot], .pointer (some ⟨qb, 0, none⟩)] H (.bool (y.who == x.who)) (H) := by
  refine ac_gc0 (fun β => VR.plainT β (by first | rfl | simp [plainT, plainV, plain1])) (ac_body Try.func38 rfl Try.ntmps38 rfl ?_)
  refine aw_seq ?_
  refine aw_region ?_
  refine al_opd rfl rfl rfl (ao_boxa (by rfl)) ?_
  refine al_opd rfl rfl rfl (ao_as (v := .bool _) rfl) ?_
  refine al_nilT ?_
  refine aw_seq ?_
  refine aw_region ?_
  refine al_opd rfl rfl rfl (ao_fieldAddr fo_54_0 rfl) ?_
  refine al_opd rfl rfl rfl (ao_load (v := .int _ _) Try.isAgg22 (by rfl) (by exact HLp) (by rfl) (by exact RFp)) ?_
  refine al_opd rfl rfl rfl (ao_fieldAddr fo_54_0 rfl) ?_
  refine al_opd rfl rfl rfl (ao_load (v := .int _ _) Try.isAgg22 (by rfl) (by exact HLp) (by rfl) (by exact RFp)) ?_
  refine al_opd rfl rfl rfl (ao_eql rfl rfl) ?_
  refine al_opd rfl rfl rfl (ao_as (v := .bool _) rfl) ?_
  refine al_nilT ?_
  refine aw_ret ?_
  refine ends1 rfl (rv_tmp (v := .bool _) rfl) ?_
  exact ⟨by first | rfl | (simp [*]; (first | done | fail)), by exact SMp⟩

-- slices.IndexFunc[[]impl.Hold,impl.Hold]
theorem indexVH_c {x : Hold} {hs : List Hold} {w : Value} {qb : Nat} {r : Int} {H : AHeap} (hh : Sl H hold 2 w hs) (hn : hs.length ≤ 4194304) (hq : H.blk qb = some (.cells [.int .i16 x.who, .int .i8 x.knot] 1)) (hr : firstAt (fun j => ∃ y, hs[j]? = some y ∧ y.who = x.who) hs.length r) : ACd Try.prog 41 [w, .func (.func 38) #[] #[.pointer (some ⟨qb, 0, none⟩)]] H (.int .i64 r) (H) := by
  refine ac_gc0 (fun β => VR.plainT β (by first | rfl | simp [plainT, plainV, plain1])) (ac_body Try.func41 rfl Try.ntmps41 rfl ?_)
  refine aw_seq ?_
  refine aw_region ?_
  refine al_opd rfl rfl rfl (ao_as (v := .int _ _) rfl) ?_
  refine al_nilT ?_
  refine aw_seq ?_
  refine aw_seq ?_
  refine aw_region ?_
  first | refine al_opd rfl rfl rfl (ao_mv (v := .slice _ _ _) rfl) ?_ | refine al_opd rfl rfl rfl (ao_mv (v := w) rfl) ?_
  first | refine al_opd rfl rfl rfl (ao_lenS Try.underlying36 (by rfl)) ?_ | refine al_opd rfl rfl rfl (ao_lenN Try.underlying36 (by rfl)) ?_ | refine al_opd rfl rfl rfl (ao_lenV Try.underlying36 rfl hh) ?_
  refine al_opd rfl rfl rfl (ao_mv (v := .int _ _) rfl) ?_
  refine al_nilT ?_
  refine aw_block ?_
  refine aw_loop (fun (gk : Nat) (fr : AFr) (G : AHeap) => ∃ get : Nat → Value, fr = ⟨19, get⟩ ∧ (∃ i : Nat, i ≤ hs.length ∧ gk = hs.length - i ∧ G = H ∧ get 0 = w ∧ get 1 = .func (.func 38) #[] #[.pointer (some ⟨qb, 0, none⟩)] ∧ get 7 = .int .i64 hs.length ∧ get 8 = .int .i64 i ∧ ∀ j, j < i → ¬ (fun j => ∃ y, hs[j]? = some y ∧ y.who = x.who) j)) (hs.length) ⟨_, rfl, ?_⟩ ?_
  · exact ⟨0, Nat.zero_le _, rfl, rfl, rfl, rfl, rfl, rfl, fun j h => by omega⟩
  · rintro gk fr G ⟨get, rfl, i, hi, rfl, rfl, g0, g1, g7, g8, hm⟩
    refine aw_slot (d := 0) (v := w) (by first | assumption | rfl) ?_
    refine aw_slot (d := 1) (v := .func (.func 38) #[] #[.pointer (some ⟨qb, 0, none⟩)]) (by first | assumption | rfl) ?_
    refine aw_slot (d := 7) (v := .int .i64 hs.length) (by first | assumption | rfl) ?_
    refine aw_slot (d := 8) (v := .int .i64 i) (by first | assumption | rfl) ?_
    refine aw_seq ?_
    refine aw_region ?_
    refine al_opd rfl rfl rfl (ao_lss rfl rfl) ?_
    refine al_nilT ?_
    refine aw_seq ?_
    refine aw_cond rfl (fun h1_ => ?_) (fun h1_ => ?_)
    · try simp only [nrm] at h1_
      obtain ⟨y, hy⟩ := get_lt (show i < hs.length by omega)
      refine aw_skipT ?_
      refine aw_seq ?_
      refine aw_block ?_
      refine aw_seq ?_
      refine aw_region ?_
      refine al_opd rfl rfl rfl (ao_mv (v := .int _ _) rfl) ?_
      refine al_opd rfl rfl rfl (ao_as (v := .int _ _) rfl) ?_
      refine al_nilT ?_
      refine aw_seq ?_
      refine aw_region ?_
      first | refine al_opd rfl rfl rfl (ao_mv (v := .func _ _ _) rfl) ?_ | refine al_opd rfl rfl rfl (ao_mv (v := w) rfl) ?_
      first | refine al_opd rfl rfl rfl (ao_mv (v := .slice _ _ _) rfl) ?_ | refine al_opd rfl rfl rfl (ao_mv (v := w) rfl) ?_
      refine al_opd rfl rfl rfl (ao_mv (v := .int _ _) rfl) ?_
      first | refine al_opd rfl rfl rfl (ao_indexAddrS Try.underlying36 Try.sizeOf54 rfl rfl (by exact IXp) (by exact IXp)) ?_ | refine al_opd rfl rfl rfl (ao_indexV Try.underlying36 Try.sizeOf54 rfl rfl hh (by exact IXp) (by exact IXp)) ?_
      first | refine al_opd rfl rfl rfl (ao_loada Try.isAgg54 Try.sizeOf54 rfl (by exact HLp) (by rfl) (by exact RFp)) ?_ | refine al_opd rfl rfl rfl (ao_loadsV (A := #[.int _ _, .int _ _]) Try.isAgg54 Try.sizeOf54 hh rfl hy rfl (by decide)) ?_
      refine al_opd rfl rfl rfl (ao_callv Try.call38 (by rfl) (by rfl) (vh1_c (x := x) (y := y) (qb := qb) hq)) ?_
      refine al_nilT ?_
      refine aw_cond rfl (fun h2_ => ?_) (fun h2_ => ?_)
      · try simp only [nrm] at h2_
        refine aw_seq ?_
        refine aw_region ?_
        refine al_opd rfl rfl rfl (ao_mv (v := .int _ _) rfl) ?_
        refine al_opd rfl rfl rfl (ao_as (v := .int _ _) rfl) ?_
        refine al_nilT ?_
        refine aw_ret ?_
        refine blockA_r ?_
        refine thenA_r ?_
        refine thenA_r ?_
        refine blockA_r ?_
        refine thenA_r ?_
        refine ends1 rfl (rv_tmp (v := .int _ _) rfl) ?_
        exact ⟨congrArg (Value.int .i64) (firstAt_hit hr (by omega) ⟨y, hy, h2_⟩ hm), by exact SMp⟩
      · try simp only [nrm] at h2_
        refine aw_skipB ?_
        refine thenA_n ?_
        refine aw_region ?_
        first | refine al_opd rfl rfl rfl ((ao_add rfl rfl).val (nw_i64 BDp BDp)) ?_ | refine al_opd rfl rfl rfl (ao_add rfl rfl) ?_
        refine al_opd rfl rfl rfl (ao_mv (v := .int _ _) rfl) ?_
        refine al_nilT ?_
        refine ⟨_, ?_, _, rfl, i + 1, by omega, rfl, rfl, rfl, rfl, rfl, by rfl, fun j hj => ?_⟩
        · omega
        · rcases Nat.lt_or_ge j i with h9 | h9
          · exact hm j h9
          · obtain rfl : j = i := by omega
            rintro ⟨y', hy', e⟩; rw [hy] at hy'; cases hy'; exact h2_ e
    · try simp only [nrm] at h1_
      refine aw_exit ?_
      refine thenA_x ?_
      refine thenA_x ?_
      refine blockA_hit ?_
      refine thenA_n ?_
      refine aw_seq ?_
      refine aw_region ?_
      refine al_opd rfl rfl rfl (ao_as (v := .int _ _) rfl) ?_
      refine al_nilT ?_
      refine aw_ret ?_
      refine ends1 rfl (rv_tmp (v := .int _ _) rfl) ?_
      obtain rfl : i = hs.length := by omega
      exact ⟨congrArg (Value.int .i64) (firstAt_none hr hm), by exact SMp⟩

-- slices.ContainsFunc[[]impl.Hold,impl.Hold]
theorem containsVH_c {x : Hold} {hs : List Hold} {w : Value} {qb : Nat} {b : Bool} {H : AHeap} (hh : Sl H hold 2 w hs) (hn : hs.length ≤ 4194304) (hq : H.blk qb = some (.cells [.int .i16 x.who, .int .i8 x.knot] 1)) (hb : b = true ↔ ∃ j, j < hs.length ∧ (fun j => ∃ y, hs[j]? = some y ∧ y.who = x.who) j) : ACd Try.prog 37 [w, .func (.func 38) #[] #[.pointer (some ⟨qb, 0, none⟩)]] H (.bool b) (H) := by
  obtain ⟨r, hr⟩ := exists_first (fun j => ∃ y, hs[j]? = some y ∧ y.who = x.who) hs.length
  refine ac_gc0 (fun β => VR.plainT β (by first | rfl | simp [plainT, plainV, plain1])) (ac_body Try.func37 rfl Try.ntmps37 rfl ?_)
  refine aw_seq ?_
  refine aw_region ?_
  refine al_opd rfl rfl rfl (ao_as (v := .bool _) rfl) ?_
  refine al_nilT ?_
  refine aw_seq ?_
  refine aw_region ?_
  first | refine al_opd rfl rfl rfl (ao_mv (v := .slice _ _ _) rfl) ?_ | refine al_opd rfl rfl rfl (ao_mv (v := w) rfl) ?_
  first | refine al_opd rfl rfl rfl (ao_mv (v := .func _ _ _) rfl) ?_ | refine al_opd rfl rfl rfl (ao_mv (v := w) rfl) ?_
  refine al_opd rfl rfl rfl (ao_calld (indexVH_c (x := x) (hs := hs) (w := w) (qb := qb) (r := r) hh hn hq hr) Try.call41 rfl rfl) ?_
  refine al_opd rfl rfl rfl (ao_geq rfl rfl) ?_
  refine al_opd rfl rfl rfl (ao_as (v := .bool _) rfl) ?_
  refine al_nilT ?_
  refine aw_ret ?_
  refine ends1 rfl (rv_tmp (v := .bool _) rfl) ?_
  exact ⟨bdec hb (firstAt_ge hr).symm, by exact SMp⟩

-- impl.ValidHolds
theorem implValidHolds_c {L : Int} {v : Value} {ks : List Int} {hs : List Hold} {b : Bool} {lb c : Nat} {H : AHeap} (ha0 : Sl H i16 1 v ks) (hk0 : H.blk lb = some (.cells (fl hold hs) 2)) (hlen : ks.length ≤ 4194304) (hn : hs.length ≤ 4194304) (hL : -32768 ≤ L ∧ L ≤ 32767) (hw : holdOk hs) (hb : b = true ↔ okRope L ks ∧ okHolds ks.length hs) : ACd Try.prog 32 [.agg #[.int .i16 L, v], .slice (some ⟨lb, 0, none⟩) hs.length c] H (.bool b) (H) := by
  obtain ⟨b1, hb1⟩ := exists_bool (okRope L ks)
  have hlt0 := AHeap.lt hk0
  refine ac_gc0 (fun β => VR.plainT β (by first | rfl | simp [plainT, plainV, plain1])) (ac_body Try.func32 rfl Try.ntmps32 rfl ?_)
  refine aw_seq ?_
  refine aw_region ?_
  refine al_opd rfl rfl rfl (ao_boxa (by rfl)) ?_
  refine al_opd rfl rfl rfl (ao_as (v := .bool _) rfl) ?_
  refine al_nilT ?_
  refine aw_seq ?_
  refine aw_seq ?_
  refine aw_region ?_
  first | refine al_opd rfl rfl rfl (ao_mv (v := .slice _ _ _) rfl) ?_ | refine al_opd rfl rfl rfl (ao_mv (v := v) rfl) ?_
  first | refine al_opd rfl rfl rfl (ao_lenS Try.underlying36 (by rfl)) ?_ | refine al_opd rfl rfl rfl (ao_lenN Try.underlying36 (by rfl)) ?_ | refine al_opd rfl rfl rfl (ao_lenV Try.underlying36 rfl hh) ?_ | refine al_opd rfl rfl rfl (ao_lenV Try.underlying36 rfl hh') ?_
  refine al_opd rfl rfl rfl (ao_mv (v := .int _ _) rfl) ?_
  refine al_nilT ?_
  refine aw_block ?_
  refine aw_loop (fun (gk : Nat) (fr : AFr) (G : AHeap) => ∃ get : Nat → Value, fr = ⟨43, get⟩ ∧ (∃ i : Nat, i ≤ hs.length ∧ gk = hs.length - i ∧ Same (H.next + 1) (H.push (.cells [.int .i16 L, v] 1)) G ∧ H.next + 1 ≤ G.next ∧ get 1 = .slice (some ⟨lb, 0, none⟩) hs.length c ∧ get 2 = .pointer (some ⟨H.next, 0, none⟩) ∧ get 7 = .slice (some ⟨lb, 0, none⟩) hs.length c ∧ get 8 = .int .i64 hs.length ∧ get 9 = .int .i64 i ∧ ∀ j, j < i → goodAt ks.length hs j)) (hs.length) ⟨_, rfl, ?_⟩ ?_
  · exact ⟨0, Nat.zero_le _, rfl, by exact SMp, by exact LEp, rfl, rfl, rfl, rfl, rfl, fun j h => by omega⟩
  · rintro gk fr G ⟨get, rfl, i, hi, rfl, hG, hnx, g1, g2, g7, g8, g9, hq⟩
    have hbx : G.blk H.next = some (.cells [.int .i16 L, v] 1) := (hG _ (by omega)).trans (blk_push_new _ _)
    have hs0 : Same H.next H G := Same.trans ((Same.refl _ _).push (Nat.le_refl _) _) hG (by omega)
    have ha : Sl G i16 1 v ks := ha0.mono hs0
    have hkG : G.blk lb = some (.cells (fl hold hs) 2) := (hs0 _ hlt0).trans hk0
    have hh : Sl G hold 2 (.slice (some ⟨lb, 0, none⟩) hs.length c) hs := Sl.full hold_len hkG rfl rfl rfl
    refine aw_slot (d := 1) (v := .slice (some ⟨lb, 0, none⟩) hs.length c) (by first | assumption | rfl) ?_
    refine aw_slot (d := 2) (v := .pointer (some ⟨H.next, 0, none⟩)) (by first | assumption | rfl) ?_
    refine aw_slot (d := 7) (v := .slice (some ⟨lb, 0, none⟩) hs.length c) (by first | assumption | rfl) ?_
    refine aw_slot (d := 8) (v := .int .i64 hs.length) (by first | assumption | rfl) ?_
    refine aw_slot (d := 9) (v := .int .i64 i) (by first | assumption | rfl) ?_
    refine aw_seq ?_
    refine aw_region ?_
    refine al_opd rfl rfl rfl (ao_lss rfl rfl) ?_
    refine al_nilT ?_
    refine aw_seq ?_
    refine aw_cond rfl (fun h1_ => ?_) (fun h1_ => ?_)
    · try simp only [nrm] at h1_
      obtain ⟨x, hx⟩ := get_lt (show i < hs.length by omega)
      have hh' : Sl (G.push (.cells [.int .i16 x.who, .int .i8 x.knot] 1)) hold 2 (.slice (some ⟨lb, 0, none⟩) hs.length c) hs := hh.mono (by exact SMp)
      obtain ⟨br, hbr⟩ := exists_bool (inRange ks.length x)
      obtain ⟨bc, hbc⟩ := exists_bool (∃ j, j < (hs.take i).length ∧ (fun j => ∃ y, (hs.take i)[j]? = some y ∧ y.who = x.who) j)
      refine aw_skipT ?_
      refine aw_seq ?_
      refine aw_block ?_
      refine aw_seq ?_
      refine aw_region ?_
      refine al_opd rfl rfl rfl (ao_mv (v := .int _ _) rfl) ?_
      first | refine al_opd rfl rfl rfl (ao_indexAddrS Try.underlying36 Try.sizeOf54 rfl rfl (by exact IXp) (by exact IXp)) ?_ | refine al_opd rfl rfl rfl (ao_indexV Try.underlying36 Try.sizeOf54 rfl rfl hh (by exact IXp) (by exact IXp)) ?_ | refine al_opd rfl rfl rfl (ao_indexV Try.underlying36 Try.sizeOf54 rfl rfl hh' (by exact IXp) (by exact IXp)) ?_
      first | refine al_opd rfl rfl rfl (ao_loada Try.isAgg54 Try.sizeOf54 rfl (by exact HLp) (by rfl) (by exact RFp)) ?_ | refine al_opd rfl rfl rfl (ao_loadsV (A := #[.int _ _, .int _ _]) Try.isAgg54 Try.sizeOf54 hh rfl hx rfl (by decide)) ?_ | refine al_opd rfl rfl rfl (ao_loadsV (A := #[.int _ _, .int _ _]) Try.isAgg54 Try.sizeOf54 hh rfl hy rfl (by decide)) ?_ | refine al_opd rfl rfl rfl (ao_loadsV (A := #[.int _ _, .int _ _]) Try.isAgg54 Try.sizeOf54 hh' rfl hx rfl (by decide)) ?_ | refine al_opd rfl rfl rfl (ao_loadsV (A := #[.int _ _, .int _ _]) Try.isAgg54 Try.sizeOf54 hh' rfl hy rfl (by decide)) ?_
      refine al_opd rfl rfl rfl (ao_alloca (zv54) (by rfl)) ?_
      refine al_opd rfl rfl rfl (ao_as (v := .int _ _) rfl) ?_
      first | refine al_opd rfl rfl rfl ((ao_storeL Try.sizeOf54 (by rfl) (by rfl) (by exact HLp) (by exact RFp) (by exact RFp) (by exact RFp)).to (SetR.eq (by exact SRp))) ?_ | refine al_opd rfl rfl rfl ((ao_storeP (ds := [.int _ _, .int _ _]) Try.sizeOf54 (by rfl) (by rfl) (by exact HLp) (by exact RFp) (by exact RFp) (by exact LTp)).to (SetR.eq (by exact SRp))) ?_
      refine al_nilT ?_
      refine aw_seq ?_
      refine aw_draw (m := 26) mo (by kernel_rfl) rfl (fun _ _ _ h => h) ?_
      first | refine dw_opd rfl rfl rfl (ao_loada Try.isAgg27 Try.sizeOf27 rfl (by exact HLp) (by rfl) (by exact RFp)) ?_ | refine dw_opd rfl rfl rfl (ao_loadsV (A := #[.int _ _, .slice _ _ _]) Try.isAgg27 Try.sizeOf27 hh rfl hx rfl (by decide)) ?_ | refine dw_opd rfl rfl rfl (ao_loadsV (A := #[.int _ _, .slice _ _ _]) Try.isAgg27 Try.sizeOf27 hh rfl hy rfl (by decide)) ?_ | refine dw_opd rfl rfl rfl (ao_loadsV (A := #[.int _ _, .slice _ _ _]) Try.isAgg27 Try.sizeOf27 hh' rfl hx rfl (by decide)) ?_ | refine dw_opd rfl rfl rfl (ao_loadsV (A := #[.int _ _, .slice _ _ _]) Try.isAgg27 Try.sizeOf27 hh' rfl hy rfl (by decide)) ?_
      first | refine dw_opd rfl rfl rfl (ao_loada Try.isAgg54 Try.sizeOf54 rfl (by exact HLp) (by rfl) (by exact RFp)) ?_ | refine dw_opd rfl rfl rfl (ao_loadsV (A := #[.int _ _, .int _ _]) Try.isAgg54 Try.sizeOf54 hh rfl hx rfl (by decide)) ?_ | refine dw_opd rfl rfl rfl (ao_loadsV (A := #[.int _ _, .int _ _]) Try.isAgg54 Try.sizeOf54 hh rfl hy rfl (by decide)) ?_ | refine dw_opd rfl rfl rfl (ao_loadsV (A := #[.int _ _, .int _ _]) Try.isAgg54 Try.sizeOf54 hh' rfl hx rfl (by decide)) ?_ | refine dw_opd rfl rfl rfl (ao_loadsV (A := #[.int _ _, .int _ _]) Try.isAgg54 Try.sizeOf54 hh' rfl hy rfl (by decide)) ?_
      refine dw_opd rfl rfl rfl (ao_calld (isHold_c (L := L) (v := v) (ks := ks) (x := x) (b := br) (ha.mono (by exact SMp)) hlen (hw x (List.mem_of_getElem? hx)) hbr) Try.call36 rfl rfl) ?_
      refine dw_opd rfl rfl rfl (ao_not rfl) ?_
      refine dw_opd rfl rfl rfl (ao_mv (v := .bool _) rfl) ?_
      refine dw_cases (d := 18) rfl (fun h2_ => ?_) (fun h2_ => ?_)
      · try simp only [nrm] at h2_
        refine dw_gno rfl rfl rfl rfl rfl rfl ?_
        refine dw_gno rfl rfl rfl rfl rfl rfl ?_
        refine dw_gno rfl rfl rfl rfl rfl rfl ?_
        refine dw_gnu rfl rfl rfl rfl rfl ?_
        refine dw_gnu rfl rfl rfl rfl rfl ?_
        refine dw_gnu rfl rfl rfl rfl rfl ?_
        refine dw_gnu rfl rfl rfl rfl rfl ?_
        refine dw_gnu rfl rfl rfl rfl rfl ?_
        refine dw_gnu rfl rfl rfl rfl rfl ?_
        refine dw_gnu rfl rfl rfl rfl rfl ?_
        refine dw_gnu rfl rfl rfl rfl rfl ?_
        refine dw_gnu rfl rfl rfl rfl rfl ?_
        refine dw_gno rfl rfl rfl rfl rfl rfl ?_
        refine dw_opd rfl rfl rfl (ao_pickT rfl (v := .bool _) rfl) ?_
        refine dw_opd rfl rfl rfl (ao_mv (v := .bool _) rfl) ?_
        refine dw_gno rfl rfl rfl rfl rfl rfl ?_
        refine dw_gno rfl rfl rfl rfl rfl rfl ?_
        refine dw_gno rfl rfl rfl rfl rfl rfl ?_
        refine dw_gno rfl rfl rfl rfl rfl rfl ?_
        refine dw_gno rfl rfl rfl rfl rfl rfl ?_
        refine dw_opd rfl rfl rfl (ao_pickT rfl (v := .bool _) rfl) ?_
        refine dw_end ?_
        refine al_nilT ?_
        refine aw_condT (by rfl) ⟨_, rfl⟩ ?_
        refine aw_seq ?_
        refine aw_region ?_
        refine al_opd rfl rfl rfl (ao_as (v := .bool _) rfl) ?_
        refine al_nilT ?_
        refine aw_ret ?_
        refine blockA_r ?_
        refine thenA_r ?_
        refine thenA_r ?_
        refine blockA_r ?_
        refine thenA_r ?_
        refine ends1 rfl (rv_tmp (v := .bool _) rfl) ?_
        exact ⟨bf hb (fun ⟨q1, q2⟩ => by rw [hbr.mpr (q2 i x hx).1] at h2_; simp at h2_), by exact SMp⟩
      · try simp only [nrm] at h2_
        refine dw_gyes rfl rfl rfl rfl rfl (ao_mv (v := .int _ _) rfl) ?_
        refine dw_gyes rfl rfl rfl rfl rfl (ao_gtr rfl rfl) ?_
        refine dw_gyes rfl rfl rfl rfl rfl (ao_mv (v := .bool _) rfl) ?_
        refine dw_cases (d := 21) rfl (fun h3_ => ?_) (fun h3_ => ?_)
        · try simp only [nrm] at h3_
          obtain ⟨y, hy⟩ := get_lt (show i - 1 < hs.length by omega)
          refine dw_gyes rfl rfl rfl rfl rfl (ao_fieldAddr fo_54_1 rfl) ?_
          first | refine dw_gyes rfl rfl rfl rfl rfl (ao_load (v := .int _ _) Try.isAgg52 (by rfl) (by exact HLp) (by rfl) (by exact RFp)) ?_ | refine dw_gyes rfl rfl rfl rfl rfl (ao_loadV (j := 0) (u := .int _ _) Try.isAgg52 hh rfl rfl hx rfl) ?_ | refine dw_gyes rfl rfl rfl rfl rfl (ao_loadV (j := 1) (u := .int _ _) Try.isAgg52 hh rfl rfl hx rfl) ?_ | refine dw_gyes rfl rfl rfl rfl rfl (ao_loadV (j := 0) (u := .int _ _) Try.isAgg52 hh rfl rfl hy rfl) ?_ | refine dw_gyes rfl rfl rfl rfl rfl (ao_loadV (j := 1) (u := .int _ _) Try.isAgg52 hh rfl rfl hy rfl) ?_ | refine dw_gyes rfl rfl rfl rfl rfl (ao_loadV (j := 0) (u := .int _ _) Try.isAgg52 hh' rfl rfl hx rfl) ?_ | refine dw_gyes rfl rfl rfl rfl rfl (ao_loadV (j := 1) (u := .int _ _) Try.isAgg52 hh' rfl rfl hx rfl) ?_ | refine dw_gyes rfl rfl rfl rfl rfl (ao_loadV (j := 0) (u := .int _ _) Try.isAgg52 hh' rfl rfl hy rfl) ?_ | refine dw_gyes rfl rfl rfl rfl rfl (ao_loadV (j := 1) (u := .int _ _) Try.isAgg52 hh' rfl rfl hy rfl) ?_
          first | refine dw_gyes rfl rfl rfl rfl rfl (ao_mv (v := .slice _ _ _) rfl) ?_ | refine dw_gyes rfl rfl rfl rfl rfl (ao_mv (v := v) rfl) ?_
          refine dw_gyes rfl rfl rfl rfl rfl (ao_mv (v := .int _ _) rfl) ?_
          refine dw_gyes rfl rfl rfl rfl rfl ((ao_sub rfl rfl).val (subn i (by omega) (by omega))) ?_
          first | refine dw_gyes rfl rfl rfl rfl rfl (ao_indexAddrS Try.underlying36 Try.sizeOf54 rfl rfl (by exact IXp) (by exact IXp)) ?_ | refine dw_gyes rfl rfl rfl rfl rfl (ao_indexV Try.underlying36 Try.sizeOf54 rfl rfl hh (by exact IXp) (by exact IXp)) ?_ | refine dw_gyes rfl rfl rfl rfl rfl (ao_indexV Try.underlying36 Try.sizeOf54 rfl rfl hh' (by exact IXp) (by exact IXp)) ?_
          refine dw_gyes rfl rfl rfl rfl rfl (ao_fieldAddr fo_54_1 rfl) ?_
          first | refine dw_gyes rfl rfl rfl rfl rfl (ao_load (v := .int _ _) Try.isAgg52 (by rfl) (by exact HLp) (by rfl) (by exact RFp)) ?_ | refine dw_gyes rfl rfl rfl rfl rfl (ao_loadV (j := 0) (u := .int _ _) Try.isAgg52 hh rfl rfl hx rfl) ?_ | refine dw_gyes rfl rfl rfl rfl rfl (ao_loadV (j := 1) (u := .int _ _) Try.isAgg52 hh rfl rfl hx rfl) ?_ | refine dw_gyes rfl rfl rfl rfl rfl (ao_loadV (j := 0) (u := .int _ _) Try.isAgg52 hh rfl rfl hy rfl) ?_ | refine dw_gyes rfl rfl rfl rfl rfl (ao_loadV (j := 1) (u := .int _ _) Try.isAgg52 hh rfl rfl hy rfl) ?_ | refine dw_gyes rfl rfl rfl rfl rfl (ao_loadV (j := 0) (u := .int _ _) Try.isAgg52 hh' rfl rfl hx rfl) ?_ | refine dw_gyes rfl rfl rfl rfl rfl (ao_loadV (j := 1) (u := .int _ _) Try.isAgg52 hh' rfl rfl hx rfl) ?_ | refine dw_gyes rfl rfl rfl rfl rfl (ao_loadV (j := 0) (u := .int _ _) Try.isAgg52 hh' rfl rfl hy rfl) ?_ | refine dw_gyes rfl rfl rfl rfl rfl (ao_loadV (j := 1) (u := .int _ _) Try.isAgg52 hh' rfl rfl hy rfl) ?_
          refine dw_gyes rfl rfl rfl rfl rfl (ao_leq rfl rfl) ?_
          refine dw_gyes rfl rfl rfl rfl rfl (ao_pickT rfl (v := .bool _) rfl) ?_
          refine dw_opd rfl rfl rfl (ao_pickF rfl (v := .bool _) rfl) ?_
          refine dw_opd rfl rfl rfl (ao_mv (v := .bool _) rfl) ?_
          refine dw_cases (d := 33) rfl (fun h4_ => ?_) (fun h4_ => ?_)
          · try simp only [nrm] at h4_
            refine dw_gno rfl rfl rfl rfl rfl rfl ?_
            refine dw_gno rfl rfl rfl rfl rfl rfl ?_
            refine dw_gno rfl rfl rfl rfl rfl rfl ?_
            refine dw_gno rfl rfl rfl rfl rfl rfl ?_
            refine dw_gno rfl rfl rfl rfl rfl rfl ?_
            refine dw_opd rfl rfl rfl (ao_pickT rfl (v := .bool _) rfl) ?_
            refine dw_end ?_
            refine al_nilT ?_
            refine aw_condT (by rfl) ⟨_, rfl⟩ ?_
            refine aw_seq ?_
            refine aw_region ?_
            refine al_opd rfl rfl rfl (ao_as (v := .bool _) rfl) ?_
            refine al_nilT ?_
            refine aw_ret ?_
            refine blockA_r ?_
            refine thenA_r ?_
            refine thenA_r ?_
            refine blockA_r ?_
            refine thenA_r ?_
            refine ends1 rfl (rv_tmp (v := .bool _) rfl) ?_
            exact ⟨bf hb (fun ⟨q1, q2⟩ => by have := (q2 i x hx).2.1 (i - 1) y (by omega) hy; omega), by exact SMp⟩
          · try simp only [nrm] at h4_
            first | refine dw_gyes rfl rfl rfl rfl rfl (ao_mv (v := .slice _ _ _) rfl) ?_ | refine dw_gyes rfl rfl rfl rfl rfl (ao_mv (v := v) rfl) ?_
            refine dw_gyes rfl rfl rfl rfl rfl (ao_mv (v := .int _ _) rfl) ?_
            refine dw_gyes rfl rfl rfl rfl rfl (ao_sliceHi Try.underlying36 Try.sizeOf54 (by rfl) (by rfl) (by first | rfl | omega) (by exact HLp) (by rfl) (by exact IXp)) ?_
            refine dw_gyes rfl rfl rfl rfl rfl (ao_makeFunc rfl rfl) ?_
            refine dw_gyes rfl rfl rfl rfl rfl (ao_calld (containsVH_c (x := x) (hs := hs.take i) (qb := G.next) (b := bc) (Sl.part (i := 0) hold_len (by exact HLp) rfl rfl (by omega) rfl (by simp; omega)) (by simp; omega) (blk_push_new _ _) hbc) Try.call37 rfl rfl) ?_
            refine dw_opd rfl rfl rfl (ao_pickF rfl (v := .bool _) rfl) ?_
            refine dw_end ?_
            refine al_nilT ?_
            refine aw_cond rfl (fun h5_ => ?_) (fun h5_ => ?_)
            · try simp only [nrm] at h5_
              refine aw_seq ?_
              refine aw_region ?_
              refine al_opd rfl rfl rfl (ao_as (v := .bool _) rfl) ?_
              refine al_nilT ?_
              refine aw_ret ?_
              refine blockA_r ?_
              refine thenA_r ?_
              refine thenA_r ?_
              refine blockA_r ?_
              refine thenA_r ?_
              refine ends1 rfl (rv_tmp (v := .bool _) rfl) ?_
              exact ⟨bf hb (fun ⟨q1, q2⟩ => by obtain ⟨j, hj, y, hy, e⟩ := hbc.mp h5_; exact take_hit hy fun hj hy => (q2 i x hx).2.2 j y hj hy e), by exact SMp⟩
            · try simp only [nrm] at h5_
              have hq2 : ∀ (j : Nat) y, j < i → hs[j]? = some y → y.who ≠ x.who := fun j y hj hy e => (Bool.eq_false_iff.mp h5_) (hbc.mpr ⟨j, by simp; omega, y, by rw [List.getElem?_take, if_pos hj]; exact hy, e⟩)
              refine aw_skipB ?_
              refine thenA_n ?_
              refine aw_region ?_
              first | refine al_opd rfl rfl rfl ((ao_add rfl rfl).val (nw_i64 BDp BDp)) ?_ | refine al_opd rfl rfl rfl (ao_add rfl rfl) ?_
              refine al_opd rfl rfl rfl (ao_mv (v := .int _ _) rfl) ?_
              refine al_nilT ?_
              refine ⟨_, ?_, _, rfl, i + 1, by omega, rfl, by exact SMp, by exact LEp, rfl, rfl, rfl, rfl, by rfl, fun j hj => ?_⟩
              · omega
              · rcases Nat.lt_or_ge j i with h9 | h9
                · exact hq j h9
                · obtain rfl : j = i := by omega
                  intro x' hx'; rw [hx] at hx'; cases hx'
                  refine ⟨hbr.mp (by simpa using h2_), fun j' y' e hy' => ?_, fun j' y' hj' hy' => hq2 j' y' (by omega) hy'⟩
                  first | (exfalso; omega) | (rw [show j' = j - 1 by omega, hy] at hy'; cases hy'; omega)
        · try simp only [nrm] at h3_
          refine dw_gno rfl rfl rfl rfl rfl rfl ?_
          refine dw_gno rfl rfl rfl rfl rfl rfl ?_
          refine dw_gno rfl rfl rfl rfl rfl rfl ?_
          refine dw_gno rfl rfl rfl rfl rfl rfl ?_
          refine dw_gno rfl rfl rfl rfl rfl rfl ?_
          refine dw_gno rfl rfl rfl rfl rfl rfl ?_
          refine dw_gno rfl rfl rfl rfl rfl rfl ?_
          refine dw_gno rfl rfl rfl rfl rfl rfl ?_
          refine dw_gno rfl rfl rfl rfl rfl rfl ?_
          refine dw_gyes rfl rfl rfl rfl rfl (ao_pickF rfl (v := .bool _) rfl) ?_
          refine dw_opd rfl rfl rfl (ao_pickF rfl (v := .bool _) rfl) ?_
          refine dw_opd rfl rfl rfl (ao_mv (v := .bool _) rfl) ?_
          first | refine dw_gyes rfl rfl rfl rfl rfl (ao_mv (v := .slice _ _ _) rfl) ?_ | refine dw_gyes rfl rfl rfl rfl rfl (ao_mv (v := v) rfl) ?_
          refine dw_gyes rfl rfl rfl rfl rfl (ao_mv (v := .int _ _) rfl) ?_
          refine dw_gyes rfl rfl rfl rfl rfl (ao_sliceHi Try.underlying36 Try.sizeOf54 (by rfl) (by rfl) (by first | rfl | omega) (by exact HLp) (by rfl) (by exact IXp)) ?_
          refine dw_gyes rfl rfl rfl rfl rfl (ao_makeFunc rfl rfl) ?_
          refine dw_gyes rfl rfl rfl rfl rfl (ao_calld (containsVH_c (x := x) (hs := hs.take i) (qb := G.next) (b := bc) (Sl.part (i := 0) hold_len (by exact HLp) rfl rfl (by omega) rfl (by simp; omega)) (by simp; omega) (blk_push_new _ _) hbc) Try.call37 rfl rfl) ?_
          refine dw_opd rfl rfl rfl (ao_pickF rfl (v := .bool _) rfl) ?_
          refine dw_end ?_
          refine al_nilT ?_
          refine aw_cond rfl (fun h6_ => ?_) (fun h6_ => ?_)
          · try simp only [nrm] at h6_
            refine aw_seq ?_
            refine aw_region ?_
            refine al_opd rfl rfl rfl (ao_as (v := .bool _) rfl) ?_
            refine al_nilT ?_
            refine aw_ret ?_
            refine blockA_r ?_
            refine thenA_r ?_
            refine thenA_r ?_
            refine blockA_r ?_
            refine thenA_r ?_
            refine ends1 rfl (rv_tmp (v := .bool _) rfl) ?_
            exact ⟨bf hb (fun ⟨q1, q2⟩ => by obtain ⟨j, hj, y, hy, e⟩ := hbc.mp h6_; exact take_hit hy fun hj hy => (q2 i x hx).2.2 j y hj hy e), by exact SMp⟩
          · try simp only [nrm] at h6_
            have hq2 : ∀ (j : Nat) y, j < i → hs[j]? = some y → y.who ≠ x.who := fun j y hj hy e => (Bool.eq_false_iff.mp h6_) (hbc.mpr ⟨j, by simp; omega, y, by rw [List.getElem?_take, if_pos hj]; exact hy, e⟩)
            refine aw_skipB ?_
            refine thenA_n ?_
            refine aw_region ?_
            first | refine al_opd rfl rfl rfl ((ao_add rfl rfl).val (nw_i64 BDp BDp)) ?_ | refine al_opd rfl rfl rfl (ao_add rfl rfl) ?_
            refine al_opd rfl rfl rfl (ao_mv (v := .int _ _) rfl) ?_
            refine al_nilT ?_
            refine ⟨_, ?_, _, rfl, i + 1, by omega, rfl, by exact SMp, by exact LEp, rfl, rfl, rfl, rfl, by rfl, fun j hj => ?_⟩
            · omega
            · rcases Nat.lt_or_ge j i with h9 | h9
              · exact hq j h9
              · obtain rfl : j = i := by omega
                intro x' hx'; rw [hx] at hx'; cases hx'
                refine ⟨hbr.mp (by simpa using h2_), fun j' y' e hy' => ?_, fun j' y' hj' hy' => hq2 j' y' (by omega) hy'⟩
                first | (exfalso; omega) | (rw [show j' = j - 1 by omega, hy] at hy'; cases hy'; omega)
    · try simp only [nrm] at h1_
      refine aw_exit ?_
      refine thenA_x ?_
      refine thenA_x ?_
      refine blockA_hit ?_
      refine thenA_n ?_
      refine aw_seq ?_
      refine aw_region ?_
      first | refine al_opd rfl rfl rfl (ao_loada Try.isAgg27 Try.sizeOf27 rfl (by exact HLp) (by rfl) (by exact RFp)) ?_ | refine al_opd rfl rfl rfl (ao_loadsV (A := #[.int _ _, .slice _ _ _]) Try.isAgg27 Try.sizeOf27 hh rfl hx rfl (by decide)) ?_ | refine al_opd rfl rfl rfl (ao_loadsV (A := #[.int _ _, .slice _ _ _]) Try.isAgg27 Try.sizeOf27 hh rfl hy rfl (by decide)) ?_ | refine al_opd rfl rfl rfl (ao_loadsV (A := #[.int _ _, .slice _ _ _]) Try.isAgg27 Try.sizeOf27 hh' rfl hx rfl (by decide)) ?_ | refine al_opd rfl rfl rfl (ao_loadsV (A := #[.int _ _, .slice _ _ _]) Try.isAgg27 Try.sizeOf27 hh' rfl hy rfl (by decide)) ?_
      refine al_opd rfl rfl rfl (ao_calld (implValidRope_c (L := L) (v := v) (ks := ks) (b := b1) (ha.mono (by exact SMp)) hlen hL hb1) Try.call24 rfl rfl) ?_
      refine al_opd rfl rfl rfl (ao_as (v := .bool _) rfl) ?_
      refine al_nilT ?_
      refine aw_ret ?_
      refine ends1 rfl (rv_tmp (v := .bool _) rfl) ?_
      exact ⟨beqv hb (hb1.trans ⟨fun q => ⟨q, fun j x hx => hq j (by have := (List.getElem?_eq_some_iff.mp hx).1; omega) x hx⟩, fun q => q.1⟩), by exact SMp⟩

end Go.Proofs.Ytdcmjbaahcipoaa
