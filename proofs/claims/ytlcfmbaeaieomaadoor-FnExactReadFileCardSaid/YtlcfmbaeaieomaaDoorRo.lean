/- Contracts of the program's functions over abstract heaps. -/
import Derived.Test.YtlcfmbaeaieomaaDoorFileW
import Derived.Test.YtlcfmbaeaieomaaDoorMoves2
import Derived.Test.YtlcfmbaeaieomaaDoorShelf
import Derived.Test.YtlcfmbaeaieomaaDoorTab
namespace Go.Proofs.YtlcfmbaeaieomaaDoor
open Go Go.AW Go.Proofs
set_option linter.unusedVariables false
set_option linter.unusedSimpArgs false
set_option maxRecDepth 100000
set_option maxHeartbeats 2000000

-- spec.l01Number
theorem l01Num1_c {s : ByteArray} {b0 : UInt8} {b : Bool} {H : AHeap} (hs : 1 ≤ s.size ∧ s.size ≤ 10) (hb0 : s[0]? = some b0) (hb : b = true ↔ digTo s s.size) (hz : b0.toNat = 48) (h1 : s.size = 1) : ACd Tryd.prog 25 [.string s] H (.tuple #[.int .i64 (if b = true then numTo s s.size else 0), .bool b]) (H) := by
  refine ac_gc0 (fun β => VR.plainT β (by first | rfl | simp [plainT, plainV, plain1])) (ac_body Tryd.func25 rfl Tryd.ntmps25 rfl ?_)
  refine aw_seq ?_
  refine aw_region ?_
  refine al_opd rfl rfl rfl (ao_as (v := .int _ _) rfl) ?_
  refine al_opd rfl rfl rfl (ao_as (v := .bool _) rfl) ?_
  refine al_nilT ?_
  refine aw_seq ?_
  refine aw_seq ?_
  refine aw_region ?_
  refine al_opd rfl rfl rfl (ao_mv (v := .string _) rfl) ?_
  refine al_opd rfl rfl rfl (ao_seql rfl rfl) ?_
  refine al_opd rfl rfl rfl (ao_mv (v := .bool _) rfl) ?_
  refine al_cases (d := 8) rfl (fun h1_ => ?_) (fun h1_ => ?_)
  · try simp only [nrm] at h1_
    (have := empty_size h1_; omega)
  try simp only [nrm] at h1_
  refine al_gyes rfl rfl rfl rfl rfl (ao_mv (v := .string _) rfl) ?_
  refine al_gyes rfl rfl rfl rfl rfl (ao_lenStr Tryd.underlying9 (by rfl)) ?_
  refine al_gyes rfl rfl rfl rfl rfl (ao_gtr rfl rfl) ?_
  refine al_opd rfl rfl rfl (ao_pickF rfl (v := .bool _) rfl) ?_
  refine al_opd rfl rfl rfl (ao_mv (v := .bool _) rfl) ?_
  refine al_cases (d := 13) rfl (fun h2_ => ?_) (fun h2_ => ?_)
  · try simp only [nrm] at h2_
    first | done | omega | (exfalso; revert h2_; simp; (first | done | omega))
  try simp only [nrm] at h2_
  refine al_gyes rfl rfl rfl rfl rfl (ao_mv (v := .string _) rfl) ?_
  refine al_gyes rfl rfl rfl rfl rfl (ao_indexStr Tryd.underlying9 (by rfl) (by rfl) (by first | rfl | omega) (by assumption)) ?_
  refine al_gyes rfl rfl rfl rfl rfl (ao_eql rfl rfl) ?_
  refine al_gyes rfl rfl rfl rfl rfl (ao_mv (v := .bool _) rfl) ?_
  refine al_cases (d := 17) rfl (fun h3_ => ?_) (fun h3_ => ?_)
  rotate_left
  · try simp only [nrm] at h3_
    first | done | omega | (exfalso; revert h3_; simp; (first | done | omega))
  try simp only [nrm] at h3_
  refine al_gyes rfl rfl rfl rfl rfl (ao_mv (v := .string _) rfl) ?_
  refine al_gyes rfl rfl rfl rfl rfl (ao_lenStr Tryd.underlying9 (by rfl)) ?_
  refine al_gyes rfl rfl rfl rfl rfl (ao_gtr rfl rfl) ?_
  refine al_gyes rfl rfl rfl rfl rfl (ao_pickT rfl (v := .bool _) rfl) ?_
  refine al_opd rfl rfl rfl (ao_pickF rfl (v := .bool _) rfl) ?_
  refine al_nilT ?_
  refine aw_cond rfl (fun h4_ => ?_) (fun h4_ => ?_)
  · try simp only [nrm] at h4_
    first | done | omega | (exfalso; revert h4_; simp; (first | done | omega))
  try simp only [nrm] at h4_
  refine aw_skipT ?_
  refine aw_seq ?_
  refine aw_region ?_
  refine al_opd rfl rfl rfl (ao_as (v := .int _ _) rfl) ?_
  refine al_nilT ?_
  refine aw_seq ?_
  refine aw_seq ?_
  refine aw_region ?_
  refine al_opd rfl rfl rfl (ao_as (v := .int _ _) rfl) ?_
  refine al_nilT ?_
  refine aw_block ?_
  refine aw_loop (fun (gk : Nat) (fr : AFr) (G : AHeap) => ∃ get : Nat → Value, fr = ⟨48, get⟩ ∧ (∃ i : Nat, i ≤ s.size ∧ gk = s.size - i ∧ H = G ∧ digTo s i ∧ get 0 = .string s ∧ get 4 = .int .i64 (numTo s i) ∧ get 5 = .int .i64 i)) (s.size) ⟨_, rfl, ?_⟩ ?_
  · exact ⟨0, Nat.zero_le _, rfl, rfl, fun i b h => by omega, rfl, rfl, rfl⟩
  · rintro gk fr G ⟨get, rfl, i, hi, rfl, rfl, hdg, g0, g4, g5⟩
    refine aw_slot (d := 0) (v := .string s) (by first | assumption | rfl) ?_
    refine aw_slot (d := 4) (v := .int .i64 (numTo s i)) (by first | assumption | rfl) ?_
    refine aw_slot (d := 5) (v := .int .i64 i) (by first | assumption | rfl) ?_
    refine aw_seq ?_
    refine aw_seq ?_
    refine aw_region ?_
    refine al_opd rfl rfl rfl (ao_mv (v := .int _ _) rfl) ?_
    refine al_opd rfl rfl rfl (ao_mv (v := .string _) rfl) ?_
    refine al_opd rfl rfl rfl (ao_lenStr Tryd.underlying9 (by rfl)) ?_
    refine al_opd rfl rfl rfl (ao_lss rfl rfl) ?_
    refine al_nilT ?_
    refine aw_cond rfl (fun h5_ => ?_) (fun h5_ => ?_)
    · try simp only [nrm] at h5_
      obtain ⟨d, hd⟩ := strAt (show i < s.size by omega)
      have hnt := numTo_le hdg (by omega) (by omega)
      have h8 := u8_lt d
      refine aw_skipT ?_
      refine aw_seq ?_
      refine aw_block ?_
      refine aw_seq ?_
      refine aw_seq ?_
      refine aw_region ?_
      refine al_opd rfl rfl rfl (ao_mv (v := .string _) rfl) ?_
      refine al_opd rfl rfl rfl (ao_mv (v := .int _ _) rfl) ?_
      refine al_opd rfl rfl rfl (ao_indexStr Tryd.underlying9 (by rfl) (by rfl) (by first | rfl | omega) (by assumption)) ?_
      refine al_opd rfl rfl rfl (ao_lss rfl rfl) ?_
      refine al_opd rfl rfl rfl (ao_mv (v := .bool _) rfl) ?_
      refine al_cases (d := 33) rfl (fun h6_ => ?_) (fun h6_ => ?_)
      · try simp only [nrm] at h6_
        refine al_gno rfl rfl rfl rfl rfl ?_
        refine al_gno rfl rfl rfl rfl rfl ?_
        refine al_gno rfl rfl rfl rfl rfl ?_
        refine al_gno rfl rfl rfl rfl rfl ?_
        refine al_opd rfl rfl rfl (ao_pickT rfl (v := .bool _) rfl) ?_
        refine al_nilT ?_
        refine aw_condT (by rfl) ⟨_, rfl⟩ ?_
        refine aw_seq ?_
        refine aw_region ?_
        refine al_opd rfl rfl rfl (ao_as (v := .int _ _) rfl) ?_
        refine al_opd rfl rfl rfl (ao_as (v := .bool _) rfl) ?_
        refine al_nilT ?_
        refine aw_ret ?_
        refine thenA_r ?_
        refine blockA_r ?_
        refine thenA_r ?_
        refine thenA_r ?_
        refine blockA_r ?_
        refine thenA_r ?_
        refine ends2 rfl (rv_tmp (v := .int _ _) rfl) (rv_tmp (v := .bool _) rfl) ?_
        have hbf : b = false := by
          cases b with
          | false => rfl
          | true => exact absurd (hb.mp rfl) (fun q => by have := q i d (by omega) hd; omega)
        subst hbf
        exact ⟨rfl, by exact SMp⟩
      · try simp only [nrm] at h6_
        refine al_gyes rfl rfl rfl rfl rfl (ao_mv (v := .string _) rfl) ?_
        refine al_gyes rfl rfl rfl rfl rfl (ao_mv (v := .int _ _) rfl) ?_
        refine al_gyes rfl rfl rfl rfl rfl (ao_indexStr Tryd.underlying9 (by rfl) (by rfl) (by first | rfl | omega) (by assumption)) ?_
        refine al_gyes rfl rfl rfl rfl rfl (ao_gtr rfl rfl) ?_
        refine al_opd rfl rfl rfl (ao_pickF rfl (v := .bool _) rfl) ?_
        refine al_nilT ?_
        refine aw_cond rfl (fun h7_ => ?_) (fun h7_ => ?_)
        · try simp only [nrm] at h7_
          refine aw_seq ?_
          refine aw_region ?_
          refine al_opd rfl rfl rfl (ao_as (v := .int _ _) rfl) ?_
          refine al_opd rfl rfl rfl (ao_as (v := .bool _) rfl) ?_
          refine al_nilT ?_
          refine aw_ret ?_
          refine thenA_r ?_
          refine blockA_r ?_
          refine thenA_r ?_
          refine thenA_r ?_
          refine blockA_r ?_
          refine thenA_r ?_
          refine ends2 rfl (rv_tmp (v := .int _ _) rfl) (rv_tmp (v := .bool _) rfl) ?_
          have hbf : b = false := by
            cases b with
            | false => rfl
            | true => exact absurd (hb.mp rfl) (fun q => by have := q i d (by omega) hd; omega)
          subst hbf
          exact ⟨rfl, by exact SMp⟩
        · try simp only [nrm] at h7_
          refine aw_skipT ?_
          refine aw_region ?_
          refine al_opd rfl rfl rfl (ao_mv (v := .int _ _) rfl) ?_
          first | refine al_opd rfl rfl rfl ((ao_mul rfl rfl).val (nw_i64 BDp BDp)) ?_ | refine al_opd rfl rfl rfl (ao_mul rfl rfl) ?_
          refine al_opd rfl rfl rfl (ao_mv (v := .string _) rfl) ?_
          refine al_opd rfl rfl rfl (ao_mv (v := .int _ _) rfl) ?_
          refine al_opd rfl rfl rfl (ao_indexStr Tryd.underlying9 (by rfl) (by rfl) (by first | rfl | omega) (by assumption)) ?_
          first | refine al_opd rfl rfl rfl ((ao_sub rfl rfl).val (nw_u8 BDp BDp)) ?_ | refine al_opd rfl rfl rfl (ao_sub rfl rfl) ?_
          first | refine al_opd rfl rfl rfl ((ao_conv ⟨_, Tryd.underlying5⟩ Tryd.underlying2 rfl).val (nw_i64 BDp BDp)) ?_ | refine al_opd rfl rfl rfl (ao_conv ⟨_, Tryd.underlying5⟩ Tryd.underlying2 rfl) ?_
          first | refine al_opd rfl rfl rfl ((ao_add rfl rfl).val (nw_i64 BDp BDp)) ?_ | refine al_opd rfl rfl rfl (ao_add rfl rfl) ?_
          refine al_opd rfl rfl rfl (ao_as (v := .int _ _) rfl) ?_
          refine al_nilB ?_
          refine thenA_n ?_
          refine aw_region ?_
          refine al_opd rfl rfl rfl (ao_mv (v := .int _ _) rfl) ?_
          first | refine al_opd rfl rfl rfl ((ao_add rfl rfl).val (nw_i64 BDp BDp)) ?_ | refine al_opd rfl rfl rfl (ao_add rfl rfl) ?_
          refine al_opd rfl rfl rfl (ao_as (v := .int _ _) rfl) ?_
          refine al_nilT ?_
          exact ⟨_, by omega, _, rfl, i + 1, by omega, rfl, rfl, dig_step hdg hd (by omega) (by omega), rfl, congrArg (Value.int .i64) (numTo_succ hd), by rfl⟩
    · try simp only [nrm] at h5_
      obtain rfl : i = s.size := by omega
      refine aw_exit ?_
      refine thenA_x ?_
      refine thenA_x ?_
      refine blockA_hit ?_
      refine thenA_n ?_
      refine aw_seq ?_
      refine aw_region ?_
      refine al_opd rfl rfl rfl (ao_mv (v := .int _ _) rfl) ?_
      refine al_opd rfl rfl rfl (ao_as (v := .int _ _) rfl) ?_
      refine al_opd rfl rfl rfl (ao_as (v := .bool _) rfl) ?_
      refine al_nilT ?_
      refine aw_ret ?_
      refine ends2 rfl (rv_tmp (v := .int _ _) rfl) (rv_tmp (v := .bool _) rfl) ?_
      have hbt : b = true := hb.mpr hdg
      subst hbt
      exact ⟨rfl, by exact SMp⟩

-- spec.l01Number
theorem l01Num2_c {s : ByteArray} {b0 : UInt8} {b : Bool} {H : AHeap} (hs : 1 ≤ s.size ∧ s.size ≤ 10) (hb0 : s[0]? = some b0) (hb : b = true ↔ digTo s s.size) (hz : ¬ b0.toNat = 48) : ACd Tryd.prog 25 [.string s] H (.tuple #[.int .i64 (if b = true then numTo s s.size else 0), .bool b]) (H) := by
  refine ac_gc0 (fun β => VR.plainT β (by first | rfl | simp [plainT, plainV, plain1])) (ac_body Tryd.func25 rfl Tryd.ntmps25 rfl ?_)
  refine aw_seq ?_
  refine aw_region ?_
  refine al_opd rfl rfl rfl (ao_as (v := .int _ _) rfl) ?_
  refine al_opd rfl rfl rfl (ao_as (v := .bool _) rfl) ?_
  refine al_nilT ?_
  refine aw_seq ?_
  refine aw_seq ?_
  refine aw_region ?_
  refine al_opd rfl rfl rfl (ao_mv (v := .string _) rfl) ?_
  refine al_opd rfl rfl rfl (ao_seql rfl rfl) ?_
  refine al_opd rfl rfl rfl (ao_mv (v := .bool _) rfl) ?_
  refine al_cases (d := 8) rfl (fun h1_ => ?_) (fun h1_ => ?_)
  · try simp only [nrm] at h1_
    (have := empty_size h1_; omega)
  try simp only [nrm] at h1_
  refine al_gyes rfl rfl rfl rfl rfl (ao_mv (v := .string _) rfl) ?_
  refine al_gyes rfl rfl rfl rfl rfl (ao_lenStr Tryd.underlying9 (by rfl)) ?_
  refine al_gyes rfl rfl rfl rfl rfl (ao_gtr rfl rfl) ?_
  refine al_opd rfl rfl rfl (ao_pickF rfl (v := .bool _) rfl) ?_
  refine al_opd rfl rfl rfl (ao_mv (v := .bool _) rfl) ?_
  refine al_cases (d := 13) rfl (fun h2_ => ?_) (fun h2_ => ?_)
  · try simp only [nrm] at h2_
    first | done | omega | (exfalso; revert h2_; simp; (first | done | omega))
  try simp only [nrm] at h2_
  refine al_gyes rfl rfl rfl rfl rfl (ao_mv (v := .string _) rfl) ?_
  refine al_gyes rfl rfl rfl rfl rfl (ao_indexStr Tryd.underlying9 (by rfl) (by rfl) (by first | rfl | omega) (by assumption)) ?_
  refine al_gyes rfl rfl rfl rfl rfl (ao_eql rfl rfl) ?_
  refine al_gyes rfl rfl rfl rfl rfl (ao_mv (v := .bool _) rfl) ?_
  refine al_cases (d := 17) rfl (fun h3_ => ?_) (fun h3_ => ?_)
  · try simp only [nrm] at h3_
    first | done | omega | (exfalso; revert h3_; simp; (first | done | omega))
  try simp only [nrm] at h3_
  refine al_gno rfl rfl rfl rfl rfl ?_
  refine al_gno rfl rfl rfl rfl rfl ?_
  refine al_gno rfl rfl rfl rfl rfl ?_
  refine al_gyes rfl rfl rfl rfl rfl (ao_pickF rfl (v := .bool _) rfl) ?_
  refine al_opd rfl rfl rfl (ao_pickF rfl (v := .bool _) rfl) ?_
  refine al_nilT ?_
  refine aw_condF (by rfl) ⟨_, rfl⟩ ?_
  refine aw_skipT ?_
  refine aw_seq ?_
  refine aw_region ?_
  refine al_opd rfl rfl rfl (ao_as (v := .int _ _) rfl) ?_
  refine al_nilT ?_
  refine aw_seq ?_
  refine aw_seq ?_
  refine aw_region ?_
  refine al_opd rfl rfl rfl (ao_as (v := .int _ _) rfl) ?_
  refine al_nilT ?_
  refine aw_block ?_
  refine aw_loop (fun (gk : Nat) (fr : AFr) (G : AHeap) => ∃ get : Nat → Value, fr = ⟨48, get⟩ ∧ (∃ i : Nat, i ≤ s.size ∧ gk = s.size - i ∧ H = G ∧ digTo s i ∧ get 0 = .string s ∧ get 4 = .int .i64 (numTo s i) ∧ get 5 = .int .i64 i)) (s.size) ⟨_, rfl, ?_⟩ ?_
  · exact ⟨0, Nat.zero_le _, rfl, rfl, fun i b h => by omega, rfl, rfl, rfl⟩
  · rintro gk fr G ⟨get, rfl, i, hi, rfl, rfl, hdg, g0, g4, g5⟩
    refine aw_slot (d := 0) (v := .string s) (by first | assumption | rfl) ?_
    refine aw_slot (d := 4) (v := .int .i64 (numTo s i)) (by first | assumption | rfl) ?_
    refine aw_slot (d := 5) (v := .int .i64 i) (by first | assumption | rfl) ?_
    refine aw_seq ?_
    refine aw_seq ?_
    refine aw_region ?_
    refine al_opd rfl rfl rfl (ao_mv (v := .int _ _) rfl) ?_
    refine al_opd rfl rfl rfl (ao_mv (v := .string _) rfl) ?_
    refine al_opd rfl rfl rfl (ao_lenStr Tryd.underlying9 (by rfl)) ?_
    refine al_opd rfl rfl rfl (ao_lss rfl rfl) ?_
    refine al_nilT ?_
    refine aw_cond rfl (fun h4_ => ?_) (fun h4_ => ?_)
    · try simp only [nrm] at h4_
      obtain ⟨d, hd⟩ := strAt (show i < s.size by omega)
      have hnt := numTo_le hdg (by omega) (by omega)
      have h8 := u8_lt d
      refine aw_skipT ?_
      refine aw_seq ?_
      refine aw_block ?_
      refine aw_seq ?_
      refine aw_seq ?_
      refine aw_region ?_
      refine al_opd rfl rfl rfl (ao_mv (v := .string _) rfl) ?_
      refine al_opd rfl rfl rfl (ao_mv (v := .int _ _) rfl) ?_
      refine al_opd rfl rfl rfl (ao_indexStr Tryd.underlying9 (by rfl) (by rfl) (by first | rfl | omega) (by assumption)) ?_
      refine al_opd rfl rfl rfl (ao_lss rfl rfl) ?_
      refine al_opd rfl rfl rfl (ao_mv (v := .bool _) rfl) ?_
      refine al_cases (d := 33) rfl (fun h5_ => ?_) (fun h5_ => ?_)
      · try simp only [nrm] at h5_
        refine al_gno rfl rfl rfl rfl rfl ?_
        refine al_gno rfl rfl rfl rfl rfl ?_
        refine al_gno rfl rfl rfl rfl rfl ?_
        refine al_gno rfl rfl rfl rfl rfl ?_
        refine al_opd rfl rfl rfl (ao_pickT rfl (v := .bool _) rfl) ?_
        refine al_nilT ?_
        refine aw_condT (by rfl) ⟨_, rfl⟩ ?_
        refine aw_seq ?_
        refine aw_region ?_
        refine al_opd rfl rfl rfl (ao_as (v := .int _ _) rfl) ?_
        refine al_opd rfl rfl rfl (ao_as (v := .bool _) rfl) ?_
        refine al_nilT ?_
        refine aw_ret ?_
        refine thenA_r ?_
        refine blockA_r ?_
        refine thenA_r ?_
        refine thenA_r ?_
        refine blockA_r ?_
        refine thenA_r ?_
        refine ends2 rfl (rv_tmp (v := .int _ _) rfl) (rv_tmp (v := .bool _) rfl) ?_
        have hbf : b = false := by
          cases b with
          | false => rfl
          | true => exact absurd (hb.mp rfl) (fun q => by have := q i d (by omega) hd; omega)
        subst hbf
        exact ⟨rfl, by exact SMp⟩
      · try simp only [nrm] at h5_
        refine al_gyes rfl rfl rfl rfl rfl (ao_mv (v := .string _) rfl) ?_
        refine al_gyes rfl rfl rfl rfl rfl (ao_mv (v := .int _ _) rfl) ?_
        refine al_gyes rfl rfl rfl rfl rfl (ao_indexStr Tryd.underlying9 (by rfl) (by rfl) (by first | rfl | omega) (by assumption)) ?_
        refine al_gyes rfl rfl rfl rfl rfl (ao_gtr rfl rfl) ?_
        refine al_opd rfl rfl rfl (ao_pickF rfl (v := .bool _) rfl) ?_
        refine al_nilT ?_
        refine aw_cond rfl (fun h6_ => ?_) (fun h6_ => ?_)
        · try simp only [nrm] at h6_
          refine aw_seq ?_
          refine aw_region ?_
          refine al_opd rfl rfl rfl (ao_as (v := .int _ _) rfl) ?_
          refine al_opd rfl rfl rfl (ao_as (v := .bool _) rfl) ?_
          refine al_nilT ?_
          refine aw_ret ?_
          refine thenA_r ?_
          refine blockA_r ?_
          refine thenA_r ?_
          refine thenA_r ?_
          refine blockA_r ?_
          refine thenA_r ?_
          refine ends2 rfl (rv_tmp (v := .int _ _) rfl) (rv_tmp (v := .bool _) rfl) ?_
          have hbf : b = false := by
            cases b with
            | false => rfl
            | true => exact absurd (hb.mp rfl) (fun q => by have := q i d (by omega) hd; omega)
          subst hbf
          exact ⟨rfl, by exact SMp⟩
        · try simp only [nrm] at h6_
          refine aw_skipT ?_
          refine aw_region ?_
          refine al_opd rfl rfl rfl (ao_mv (v := .int _ _) rfl) ?_
          first | refine al_opd rfl rfl rfl ((ao_mul rfl rfl).val (nw_i64 BDp BDp)) ?_ | refine al_opd rfl rfl rfl (ao_mul rfl rfl) ?_
          refine al_opd rfl rfl rfl (ao_mv (v := .string _) rfl) ?_
          refine al_opd rfl rfl rfl (ao_mv (v := .int _ _) rfl) ?_
          refine al_opd rfl rfl rfl (ao_indexStr Tryd.underlying9 (by rfl) (by rfl) (by first | rfl | omega) (by assumption)) ?_
          first | refine al_opd rfl rfl rfl ((ao_sub rfl rfl).val (nw_u8 BDp BDp)) ?_ | refine al_opd rfl rfl rfl (ao_sub rfl rfl) ?_
          first | refine al_opd rfl rfl rfl ((ao_conv ⟨_, Tryd.underlying5⟩ Tryd.underlying2 rfl).val (nw_i64 BDp BDp)) ?_ | refine al_opd rfl rfl rfl (ao_conv ⟨_, Tryd.underlying5⟩ Tryd.underlying2 rfl) ?_
          first | refine al_opd rfl rfl rfl ((ao_add rfl rfl).val (nw_i64 BDp BDp)) ?_ | refine al_opd rfl rfl rfl (ao_add rfl rfl) ?_
          refine al_opd rfl rfl rfl (ao_as (v := .int _ _) rfl) ?_
          refine al_nilB ?_
          refine thenA_n ?_
          refine aw_region ?_
          refine al_opd rfl rfl rfl (ao_mv (v := .int _ _) rfl) ?_
          first | refine al_opd rfl rfl rfl ((ao_add rfl rfl).val (nw_i64 BDp BDp)) ?_ | refine al_opd rfl rfl rfl (ao_add rfl rfl) ?_
          refine al_opd rfl rfl rfl (ao_as (v := .int _ _) rfl) ?_
          refine al_nilT ?_
          exact ⟨_, by omega, _, rfl, i + 1, by omega, rfl, rfl, dig_step hdg hd (by omega) (by omega), rfl, congrArg (Value.int .i64) (numTo_succ hd), by rfl⟩
    · try simp only [nrm] at h4_
      obtain rfl : i = s.size := by omega
      refine aw_exit ?_
      refine thenA_x ?_
      refine thenA_x ?_
      refine blockA_hit ?_
      refine thenA_n ?_
      refine aw_seq ?_
      refine aw_region ?_
      refine al_opd rfl rfl rfl (ao_mv (v := .int _ _) rfl) ?_
      refine al_opd rfl rfl rfl (ao_as (v := .int _ _) rfl) ?_
      refine al_opd rfl rfl rfl (ao_as (v := .bool _) rfl) ?_
      refine al_nilT ?_
      refine aw_ret ?_
      refine ends2 rfl (rv_tmp (v := .int _ _) rfl) (rv_tmp (v := .bool _) rfl) ?_
      have hbt : b = true := hb.mpr hdg
      subst hbt
      exact ⟨rfl, by exact SMp⟩

-- spec.l01Number
theorem l01Num0_c {s : ByteArray} {H : AHeap} (hbad : ¬ (1 ≤ s.size ∧ s.size ≤ 10 ∧ ∀ b, s[0]? = some b → b.toNat = 48 → s.size = 1)) : ACd Tryd.prog 25 [.string s] H (.tuple #[.int .i64 0, .bool false]) (H) := by
  refine ac_gc0 (fun β => VR.plainT β (by first | rfl | simp [plainT, plainV, plain1])) (ac_body Tryd.func25 rfl Tryd.ntmps25 rfl ?_)
  refine aw_seq ?_
  refine aw_region ?_
  refine al_opd rfl rfl rfl (ao_as (v := .int _ _) rfl) ?_
  refine al_opd rfl rfl rfl (ao_as (v := .bool _) rfl) ?_
  refine al_nilT ?_
  refine aw_seq ?_
  refine aw_seq ?_
  refine aw_region ?_
  refine al_opd rfl rfl rfl (ao_mv (v := .string _) rfl) ?_
  refine al_opd rfl rfl rfl (ao_seql rfl rfl) ?_
  refine al_opd rfl rfl rfl (ao_mv (v := .bool _) rfl) ?_
  refine al_cases (d := 8) rfl (fun h1_ => ?_) (fun h1_ => ?_)
  · try simp only [nrm] at h1_
    refine al_gno rfl rfl rfl rfl rfl ?_
    refine al_gno rfl rfl rfl rfl rfl ?_
    refine al_gno rfl rfl rfl rfl rfl ?_
    refine al_opd rfl rfl rfl (ao_pickT rfl (v := .bool _) rfl) ?_
    refine al_opd rfl rfl rfl (ao_mv (v := .bool _) rfl) ?_
    refine al_gno rfl rfl rfl rfl rfl ?_
    refine al_gno rfl rfl rfl rfl rfl ?_
    refine al_gno rfl rfl rfl rfl rfl ?_
    refine al_gno rfl rfl rfl rfl rfl ?_
    refine al_gnu rfl rfl rfl rfl ?_
    refine al_gnu rfl rfl rfl rfl ?_
    refine al_gnu rfl rfl rfl rfl ?_
    refine al_gno rfl rfl rfl rfl rfl ?_
    refine al_opd rfl rfl rfl (ao_pickT rfl (v := .bool _) rfl) ?_
    refine al_nilT ?_
    refine aw_condT (by rfl) ⟨_, rfl⟩ ?_
    refine aw_seq ?_
    refine aw_region ?_
    refine al_opd rfl rfl rfl (ao_as (v := .int _ _) rfl) ?_
    refine al_opd rfl rfl rfl (ao_as (v := .bool _) rfl) ?_
    refine al_nilT ?_
    refine aw_ret ?_
    refine thenA_r ?_
    refine ends2 rfl (rv_tmp (v := .int _ _) rfl) (rv_tmp (v := .bool _) rfl) ?_
    exact ⟨by first | rfl | (simp [*]; (first | done | fail)), by exact SMp⟩
  · try simp only [nrm] at h1_
    have hp := ne_pos h1_
    obtain ⟨b0, hb0⟩ := strAt hp
    refine al_gyes rfl rfl rfl rfl rfl (ao_mv (v := .string _) rfl) ?_
    refine al_gyes rfl rfl rfl rfl rfl (ao_lenStr Tryd.underlying9 (by rfl)) ?_
    refine al_gyes rfl rfl rfl rfl rfl (ao_gtr rfl rfl) ?_
    refine al_opd rfl rfl rfl (ao_pickF rfl (v := .bool _) rfl) ?_
    refine al_opd rfl rfl rfl (ao_mv (v := .bool _) rfl) ?_
    refine al_cases (d := 13) rfl (fun h2_ => ?_) (fun h2_ => ?_)
    · try simp only [nrm] at h2_
      refine al_gno rfl rfl rfl rfl rfl ?_
      refine al_gno rfl rfl rfl rfl rfl ?_
      refine al_gno rfl rfl rfl rfl rfl ?_
      refine al_gno rfl rfl rfl rfl rfl ?_
      refine al_gnu rfl rfl rfl rfl ?_
      refine al_gnu rfl rfl rfl rfl ?_
      refine al_gnu rfl rfl rfl rfl ?_
      refine al_gno rfl rfl rfl rfl rfl ?_
      refine al_opd rfl rfl rfl (ao_pickT rfl (v := .bool _) rfl) ?_
      refine al_nilT ?_
      refine aw_condT (by rfl) ⟨_, rfl⟩ ?_
      refine aw_seq ?_
      refine aw_region ?_
      refine al_opd rfl rfl rfl (ao_as (v := .int _ _) rfl) ?_
      refine al_opd rfl rfl rfl (ao_as (v := .bool _) rfl) ?_
      refine al_nilT ?_
      refine aw_ret ?_
      refine thenA_r ?_
      refine ends2 rfl (rv_tmp (v := .int _ _) rfl) (rv_tmp (v := .bool _) rfl) ?_
      exact ⟨by first | rfl | (simp [*]; (first | done | fail)), by exact SMp⟩
    · try simp only [nrm] at h2_
      refine al_gyes rfl rfl rfl rfl rfl (ao_mv (v := .string _) rfl) ?_
      refine al_gyes rfl rfl rfl rfl rfl (ao_indexStr Tryd.underlying9 (by rfl) (by rfl) (by first | rfl | omega) (by assumption)) ?_
      refine al_gyes rfl rfl rfl rfl rfl (ao_eql rfl rfl) ?_
      refine al_gyes rfl rfl rfl rfl rfl (ao_mv (v := .bool _) rfl) ?_
      refine al_cases (d := 17) rfl (fun h3_ => ?_) (fun h3_ => ?_)
      rotate_left
      · try simp only [nrm] at h3_
        exact absurd ⟨hp, by omega, fun b hb e => by rw [hb0] at hb; cases hb; omega⟩ hbad
      try simp only [nrm] at h3_
      refine al_gyes rfl rfl rfl rfl rfl (ao_mv (v := .string _) rfl) ?_
      refine al_gyes rfl rfl rfl rfl rfl (ao_lenStr Tryd.underlying9 (by rfl)) ?_
      refine al_gyes rfl rfl rfl rfl rfl (ao_gtr rfl rfl) ?_
      refine al_gyes rfl rfl rfl rfl rfl (ao_pickT rfl (v := .bool _) rfl) ?_
      refine al_opd rfl rfl rfl (ao_pickF rfl (v := .bool _) rfl) ?_
      refine al_nilT ?_
      refine aw_cond rfl (fun h4_ => ?_) (fun h4_ => ?_)
      rotate_left
      · try simp only [nrm] at h4_
        exact absurd ⟨hp, by omega, fun b hb e => by omega⟩ hbad
      try simp only [nrm] at h4_
      refine aw_seq ?_
      refine aw_region ?_
      refine al_opd rfl rfl rfl (ao_as (v := .int _ _) rfl) ?_
      refine al_opd rfl rfl rfl (ao_as (v := .bool _) rfl) ?_
      refine al_nilT ?_
      refine aw_ret ?_
      refine thenA_r ?_
      refine ends2 rfl (rv_tmp (v := .int _ _) rfl) (rv_tmp (v := .bool _) rfl) ?_
      exact ⟨by first | rfl | (simp [*]; (first | done | fail)), by exact SMp⟩

theorem l01Num_c {s : ByteArray} {b : Bool} {H : AHeap} (hb : b = true ↔ numOk s) : ACd Tryd.prog 25 [.string s] H (.tuple #[.int .i64 (if b = true then numTo s s.size else 0), .bool b]) H := by
  by_cases h : 1 ≤ s.size ∧ s.size ≤ 10 ∧ ∀ b, s[0]? = some b → b.toNat = 48 → s.size = 1
  · obtain ⟨h1, h2, h3⟩ := h
    obtain ⟨b0, hb0⟩ := strAt (t := s) (i := 0) (by omega)
    have hb' : b = true ↔ digTo s s.size := hb.trans ⟨fun q => q.2.2.2, fun q => ⟨h1, h2, h3, q⟩⟩
    by_cases hz : b0.toNat = 48
    · exact l01Num1_c ⟨h1, h2⟩ hb0 hb' hz (h3 b0 hb0 hz)
    · exact l01Num2_c ⟨h1, h2⟩ hb0 hb' hz
  · have hbf : b = false := by
      cases b with
      | false => rfl
      | true => have q := hb.mp rfl; exact absurd ⟨q.1, q.2.1, q.2.2.1⟩ h
    subst hbf
    exact l01Num0_c h

end Go.Proofs.YtlcfmbaeaieomaaDoor
