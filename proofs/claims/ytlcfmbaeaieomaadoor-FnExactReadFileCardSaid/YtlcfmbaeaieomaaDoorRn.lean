/- Contracts of the program's functions over abstract heaps. -/
import Derived.Test.YtlcfmbaeaieomaaDoorFileW
import Derived.Test.YtlcfmbaeaieomaaDoorMoves2
import Derived.Test.YtlcfmbaeaieomaaDoorShelf
import Derived.Test.YtlcfmbaeaieomaaDoorLaws
import Derived.Test.YtlcfmbaeaieomaaDoorFt
namespace Go.Proofs.YtlcfmbaeaieomaaDoor
open Go Go.AW Go.Proofs
set_option linter.unusedVariables false
set_option linter.unusedSimpArgs false
set_option maxRecDepth 100000
set_option maxHeartbeats 2000000

theorem extIx4_c (b : UInt8) (w : World) : (callFunc 50 #[.string neswB, .int .u8 ((b.toNat : Nat) : Int)]).run Tryd.prog w = .ok (.value (.int .i64 (lt4 b))) w := by
  rw [run_callFunc_extern (e := Extern.BytealgIndexByte.indexByte) Tryd.func50 (by kernel_rfl) (by kernel_rfl) (by kernel_rfl) (by kernel_rfl), run_indexByte_string, back8, firstIdx_lt4]; rfl

-- internal/stringslite.IndexByte
theorem slIdx4_c {b : UInt8} {H : AHeap} : ACd Tryd.prog 43 [.string neswB, .int .u8 ((b.toNat : Nat) : Int)] H (.int .i64 (lt4 b)) (H) := by
  refine ac_gc0 (fun β => VR.plainT β (by first | rfl | simp [plainT, plainV, plain1])) (ac_body Tryd.func43 rfl Tryd.ntmps43 rfl ?_)
  refine aw_seq ?_
  refine aw_region ?_
  refine al_opd rfl rfl rfl (ao_as (v := .int _ _) rfl) ?_
  refine al_nilT ?_
  refine aw_seq ?_
  refine aw_region ?_
  refine al_opd rfl rfl rfl (ao_mv (v := .string _) rfl) ?_
  refine al_opd rfl rfl rfl (ao_mv (v := .int _ _) rfl) ?_
  refine al_opd rfl rfl rfl (ao_extS (by rfl) (by rfl) (fun w => extIx4_c b w) (by rfl)) ?_
  refine al_opd rfl rfl rfl (ao_as (v := .int _ _) rfl) ?_
  refine al_nilT ?_
  refine aw_ret ?_
  refine ends1 rfl (rv_tmp (v := .int _ _) rfl) ?_
  exact ⟨by first | rfl | (simp [*]; (first | done | fail)), by exact SMp⟩

-- strings.IndexByte
theorem sIdx4_c {b : UInt8} {H : AHeap} : ACd Tryd.prog 31 [.string neswB, .int .u8 ((b.toNat : Nat) : Int)] H (.int .i64 (lt4 b)) (H) := by
  refine ac_gc0 (fun β => VR.plainT β (by first | rfl | simp [plainT, plainV, plain1])) (ac_body Tryd.func31 rfl Tryd.ntmps31 rfl ?_)
  refine aw_seq ?_
  refine aw_region ?_
  refine al_opd rfl rfl rfl (ao_as (v := .int _ _) rfl) ?_
  refine al_nilT ?_
  refine aw_seq ?_
  refine aw_region ?_
  refine al_opd rfl rfl rfl (ao_mv (v := .string _) rfl) ?_
  refine al_opd rfl rfl rfl (ao_mv (v := .int _ _) rfl) ?_
  refine al_opd rfl rfl rfl (ao_calld (slIdx4_c (b := b)) Tryd.call43 rfl rfl) ?_
  refine al_opd rfl rfl rfl (ao_as (v := .int _ _) rfl) ?_
  refine al_nilT ?_
  refine aw_ret ?_
  refine ends1 rfl (rv_tmp (v := .int _ _) rfl) ?_
  exact ⟨by first | rfl | (simp [*]; (first | done | fail)), by exact SMp⟩

-- spec.l02Letter
theorem l02Letter4_c {b : UInt8} {H : AHeap} : ACd Tryd.prog 26 [.string neswB, .int .u8 ((b.toNat : Nat) : Int)] H (.int .i64 (lt4 b)) (H) := by
  refine ac_gc0 (fun β => VR.plainT β (by first | rfl | simp [plainT, plainV, plain1])) (ac_body Tryd.func26 rfl Tryd.ntmps26 rfl ?_)
  refine aw_seq ?_
  refine aw_region ?_
  refine al_opd rfl rfl rfl (ao_as (v := .int _ _) rfl) ?_
  refine al_nilT ?_
  refine aw_seq ?_
  refine aw_seq ?_
  refine aw_region ?_
  refine al_opd rfl rfl rfl (ao_as (v := .int _ _) rfl) ?_
  refine al_nilT ?_
  refine aw_block ?_
  refine aw_loop (fun (gk : Nat) (fr : AFr) (G : AHeap) => ∃ get : Nat → Value, fr = ⟨18, get⟩ ∧ (∃ i : Nat, i ≤ 4 ∧ gk = 4 - i ∧ H = G ∧ get 0 = .string neswB ∧ get 1 = .int .u8 ((b.toNat : Nat) : Int) ∧ get 5 = .int .i64 i ∧ ∀ j, j < i → ¬ lt4At b j)) (4) ⟨_, rfl, ?_⟩ ?_
  · exact ⟨0, by omega, rfl, rfl, rfl, rfl, rfl, fun j h => by omega⟩
  · rintro gk fr G ⟨get, rfl, i, hi, rfl, rfl, g0, g1, g5, hm⟩
    refine aw_slot (d := 0) (v := .string neswB) (by first | assumption | rfl) ?_
    refine aw_slot (d := 1) (v := .int .u8 ((b.toNat : Nat) : Int)) (by first | assumption | rfl) ?_
    refine aw_slot (d := 5) (v := .int .i64 i) (by first | assumption | rfl) ?_
    refine aw_seq ?_
    refine aw_seq ?_
    refine aw_region ?_
    refine al_opd rfl rfl rfl (ao_mv (v := .int _ _) rfl) ?_
    refine al_opd rfl rfl rfl (ao_mv (v := .string _) rfl) ?_
    refine al_opd rfl rfl rfl ((ao_lenStr Tryd.underlying9 (by rfl)).val (v' := .int .i64 4) (by rfl)) ?_
    refine al_opd rfl rfl rfl (ao_lss rfl rfl) ?_
    refine al_nilT ?_
    refine aw_cond rfl (fun h1_ => ?_) (fun h1_ => ?_)
    · try simp only [nrm] at h1_
      obtain ⟨c, hc, _⟩ := at4_lt (show i < 4 by omega)
      refine aw_skipT ?_
      refine aw_seq ?_
      refine aw_block ?_
      refine aw_seq ?_
      refine aw_region ?_
      refine al_opd rfl rfl rfl (ao_mv (v := .string _) rfl) ?_
      refine al_opd rfl rfl rfl (ao_mv (v := .int _ _) rfl) ?_
      refine al_opd rfl rfl rfl (ao_indexStr Tryd.underlying9 (by rfl) (by rfl) rfl hc) ?_
      refine al_opd rfl rfl rfl (ao_mv (v := .int _ _) rfl) ?_
      refine al_opd rfl rfl rfl (ao_eql rfl rfl) ?_
      refine al_nilT ?_
      refine aw_cond rfl (fun h2_ => ?_) (fun h2_ => ?_)
      · try simp only [nrm] at h2_
        refine aw_seq ?_
        refine aw_region ?_
        refine al_opd rfl rfl rfl (ao_mv (v := .int _ _) rfl) ?_
        refine al_opd rfl rfl rfl (ao_as (v := .int _ _) rfl) ?_
        refine al_nilT ?_
        refine aw_ret ?_
        refine blockA_r ?_
        refine thenA_r ?_
        refine thenA_r ?_
        refine blockA_r ?_
        refine thenA_r ?_
        refine ends1 rfl (rv_tmp (v := .int _ _) rfl) ?_
        exact ⟨congrArg (Value.int .i64) (firstAt_hit (lt4_first b) (by omega) ((lt4_at hc).mpr (u8_eq.mp h2_)) hm), by exact SMp⟩
      · try simp only [nrm] at h2_
        refine aw_skipB ?_
        refine thenA_n ?_
        refine aw_region ?_
        refine al_opd rfl rfl rfl (ao_mv (v := .int _ _) rfl) ?_
        first | refine al_opd rfl rfl rfl ((ao_add rfl rfl).val (nw_i64 BDp BDp)) ?_ | refine al_opd rfl rfl rfl (ao_add rfl rfl) ?_
        refine al_opd rfl rfl rfl (ao_as (v := .int _ _) rfl) ?_
        refine al_nilT ?_
        refine ⟨_, ?_, _, rfl, i + 1, by omega, rfl, rfl, rfl, rfl, by rfl, fun j hj => ?_⟩
        · omega
        · rcases Nat.lt_or_ge j i with h9 | h9
          · exact hm j h9
          · obtain rfl : j = i := by omega
            intro e; have := (lt4_at hc).mp e; subst this; exact h2_ rfl
    · try simp only [nrm] at h1_
      refine aw_exit ?_
      refine thenA_x ?_
      refine thenA_x ?_
      refine blockA_hit ?_
      refine thenA_n ?_
      refine aw_seq ?_
      refine aw_region ?_
      refine al_opd rfl rfl rfl (ao_as (v := .int _ _) rfl) ?_
      refine al_nilT ?_
      refine aw_ret ?_
      refine ends1 rfl (rv_tmp (v := .int _ _) rfl) ?_
      obtain rfl : i = 4 := by omega
      exact ⟨congrArg (Value.int .i64) (firstAt_none (lt4_first b) hm), by exact SMp⟩

theorem sIndex1_c {s : ByteArray} {c : UInt8} {H : AHeap} : ACd Tryd.prog 47 [.string s, .string ⟨#[c]⟩] H (.int .i64 (Lib.indexByte s.data.toList c)) H :=
  acd_below (fun v hv => by
    simp only [List.mem_cons, List.not_mem_nil, or_false] at hv
    rcases hv with rfl | rfl
    · exact id_string _
    · exact id_string _) (fun β => .int _ _) fun w _ => (Any.stringslite_Index_one Tryd.lays219 s c w).mono fun e w' ⟨he, hw⟩ => ⟨he, by rw [hw]; exact RowKit.Below.refl _ _⟩

-- internal/stringslite.Cut
theorem slCut_c {s : ByteArray} {c : UInt8} {H : AHeap} (hs : s.size ≤ 1048576) : ACd Tryd.prog 41 [.string s, .string ⟨#[c]⟩] H (.tuple #[.string (cutY c s), .string (cutZ c s), .bool (decide (0 ≤ (Lib.indexByte s.data.toList c)))]) (H) := by
  have hib := index_bnd c s.data.toList
  have hsl := ba_size s
  refine ac_gc0 (fun β => VR.plainT β (by first | rfl | simp [plainT, plainV, plain1])) (ac_body Tryd.func41 rfl Tryd.ntmps41 rfl ?_)
  refine aw_seq ?_
  refine aw_region ?_
  refine al_opd rfl rfl rfl (ao_as (v := .string _) rfl) ?_
  refine al_opd rfl rfl rfl (ao_as (v := .string _) rfl) ?_
  refine al_opd rfl rfl rfl (ao_as (v := .bool _) rfl) ?_
  refine al_nilT ?_
  refine aw_seq ?_
  refine aw_seq ?_
  refine aw_region ?_
  refine al_opd rfl rfl rfl (ao_mv (v := .string _) rfl) ?_
  refine al_opd rfl rfl rfl (ao_mv (v := .string _) rfl) ?_
  refine al_opd rfl rfl rfl (ao_calld (sIndex1_c (s := s) (c := c)) Tryd.call47 rfl rfl) ?_
  refine al_opd rfl rfl rfl (ao_as (v := .int _ _) rfl) ?_
  refine al_nilT ?_
  refine aw_seq ?_
  refine aw_region ?_
  refine al_opd rfl rfl rfl (ao_mv (v := .int _ _) rfl) ?_
  refine al_opd rfl rfl rfl (ao_geq rfl rfl) ?_
  refine al_nilT ?_
  refine aw_cond rfl (fun h1_ => ?_) (fun h1_ => ?_)
  · try simp only [nrm] at h1_
    refine aw_seq ?_
    refine aw_draw (m := 12) mo (by kernel_rfl) rfl (fun _ _ _ h => h) ?_
    refine dw_opd rfl rfl rfl (ao_mv (v := .string _) rfl) ?_
    refine dw_opd rfl rfl rfl (ao_mv (v := .int _ _) rfl) ?_
    refine dw_opd rfl rfl rfl (ao_sliceStrHi (h := (Lib.indexByte s.data.toList c).toNat) Tryd.underlying9 (by rfl) (by rfl) (by omega) (by omega)) ?_
    refine dw_opd rfl rfl rfl (ao_mv (v := .string _) rfl) ?_
    refine dw_opd rfl rfl rfl (ao_mv (v := .int _ _) rfl) ?_
    refine dw_opd rfl rfl rfl (ao_mv (v := .string _) rfl) ?_
    refine dw_opd rfl rfl rfl ((ao_lenStr Tryd.underlying9 (by rfl)).val (v' := .int .i64 1) (by rfl)) ?_
    refine dw_opd rfl rfl rfl ((ao_add rfl rfl).val (v' := .int .i64 ((Lib.indexByte s.data.toList c) + 1)) (nw_i64 (by omega) (by omega))) ?_
    refine dw_opd rfl rfl rfl (ao_sliceStrLo (l := (Lib.indexByte s.data.toList c).toNat + 1) Tryd.underlying9 (by rfl) (by rfl) (by omega) (by omega)) ?_
    refine dw_opd rfl rfl rfl (ao_as (v := .string _) rfl) ?_
    refine dw_opd rfl rfl rfl (ao_as (v := .string _) rfl) ?_
    refine dw_opd rfl rfl rfl (ao_as (v := .bool _) rfl) ?_
    refine dw_end ?_
    refine al_nilT ?_
    refine aw_ret ?_
    refine thenA_r ?_
    refine ends3 rfl (rv_tmp (v := .string _) rfl) (rv_tmp (v := .string _) rfl) (rv_tmp (v := .bool _) rfl) ?_
    exact ⟨by rw [(cutY_yes h1_).1, (cutY_yes h1_).2, decide_eq_true h1_], by exact SMp⟩
  · try simp only [nrm] at h1_
    refine aw_skipT ?_
    refine aw_seq ?_
    refine aw_region ?_
    refine al_opd rfl rfl rfl (ao_mv (v := .string _) rfl) ?_
    refine al_opd rfl rfl rfl (ao_as (v := .string _) rfl) ?_
    refine al_opd rfl rfl rfl (ao_as (v := .string _) rfl) ?_
    refine al_opd rfl rfl rfl (ao_as (v := .bool _) rfl) ?_
    refine al_nilT ?_
    refine aw_ret ?_
    refine ends3 rfl (rv_tmp (v := .string _) rfl) (rv_tmp (v := .string _) rfl) (rv_tmp (v := .bool _) rfl) ?_
    exact ⟨by rw [(cutY_no (by omega)).1, (cutY_no (by omega)).2, decide_eq_false h1_], by exact SMp⟩

-- strings.Cut
theorem sCut_c {s : ByteArray} {c : UInt8} {H : AHeap} (hs : s.size ≤ 1048576) : ACd Tryd.prog 28 [.string s, .string ⟨#[c]⟩] H (.tuple #[.string (cutY c s), .string (cutZ c s), .bool (decide (0 ≤ (Lib.indexByte s.data.toList c)))]) (H) := by
  refine ac_gc0 (fun β => VR.plainT β (by first | rfl | simp [plainT, plainV, plain1])) (ac_body Tryd.func28 rfl Tryd.ntmps28 rfl ?_)
  refine aw_seq ?_
  refine aw_region ?_
  refine al_opd rfl rfl rfl (ao_as (v := .string _) rfl) ?_
  refine al_opd rfl rfl rfl (ao_as (v := .string _) rfl) ?_
  refine al_opd rfl rfl rfl (ao_as (v := .bool _) rfl) ?_
  refine al_nilT ?_
  refine aw_seq ?_
  refine aw_region ?_
  refine al_opd rfl rfl rfl (ao_mv (v := .string _) rfl) ?_
  refine al_opd rfl rfl rfl (ao_mv (v := .string _) rfl) ?_
  refine al_opd rfl rfl rfl (ao_calld (slCut_c (s := s) (c := c) hs) Tryd.call41 rfl rfl) ?_
  refine al_opd rfl rfl rfl (ao_extract (v := .string _) rfl rfl) ?_
  refine al_opd rfl rfl rfl (ao_extract (v := .string _) rfl rfl) ?_
  refine al_opd rfl rfl rfl (ao_extract (v := .bool _) rfl rfl) ?_
  refine al_opd rfl rfl rfl (ao_as (v := .string _) rfl) ?_
  refine al_opd rfl rfl rfl (ao_as (v := .string _) rfl) ?_
  refine al_opd rfl rfl rfl (ao_as (v := .bool _) rfl) ?_
  refine al_nilT ?_
  refine aw_ret ?_
  refine ends3 rfl (rv_tmp (v := .string _) rfl) (rv_tmp (v := .string _) rfl) (rv_tmp (v := .bool _) rfl) ?_
  exact ⟨by first | rfl | (simp [*]; (first | done | fail)), by exact SMp⟩

theorem var_syn {w : World} (hg : ∀ g ∈ globs, globAt g w.heap[g]?) : ∃ tp p, w.var? Tryd.prog "strconv.ErrSyntax" = some #[.iface tp p] := by
  obtain ⟨C, ty, fz, e, _, h2⟩ := hg 2 (by simp [globs])
  obtain ⟨t, p, rfl⟩ := h2 (.inl rfl)
  refine ⟨t, p, ?_⟩
  unfold World.var?
  rw [show Program.globalNamed Tryd.prog "strconv.ErrSyntax" = some 2 by kernel_rfl, Option.bind_some, e]
theorem var_rng {w : World} (hg : ∀ g ∈ globs, globAt g w.heap[g]?) : ∃ tp p, w.var? Tryd.prog "strconv.ErrRange" = some #[.iface tp p] := by
  obtain ⟨C, ty, fz, e, _, h2⟩ := hg 3 (by simp [globs])
  obtain ⟨t, p, rfl⟩ := h2 (.inr rfl)
  refine ⟨t, p, ?_⟩
  unfold World.var?
  rw [show Program.globalNamed Tryd.prog "strconv.ErrRange" = some 3 by kernel_rfl, Option.bind_some, e]
theorem var_tab {w : World} (hg : ∀ g ∈ globs, globAt g w.heap[g]?) : Lib.TabIs Tryd.prog w "internal/strconv.uint64pow10" .u64 Lib.pow10Tab := by
  obtain ⟨C, ty, fz, e, h1, _⟩ := hg 1 (by simp [globs])
  obtain rfl := h1 rfl
  unfold Lib.TabIs World.var?
  rw [show Program.globalNamed Tryd.prog "internal/strconv.uint64pow10" = some 1 by kernel_rfl, Option.bind_some, e]
  unfold Lib.pow10Tab
  rw [List.map_map]; rfl
theorem parseOk_c {s : ByteArray} {v : Int} {H : AHeap} (hs : s.size ≤ 1048576) (h : Lib.parseIntB 64 s.data.toList = .ok v) : ACd Tryd.prog 42 [.string s, .int .i64 10, .int .i64 64] H (.tuple #[.int .i64 v, .nilIface]) (H) :=
  acd_below (fun v hv => by
    simp only [List.mem_cons, List.not_mem_nil, or_false] at hv
    rcases hv with rfl | rfl | rfl
    · exact id_string _
    · exact id_int _ _
    · exact id_int _ _) (fun β => vr_tup2 (.int _ _) .nilIface) fun w _ => (Any.strconv_ParseInt_10_at64_ok Tryd.lays174 s (by omega) v h w).mono fun e w' ⟨he, hw⟩ => ⟨he, by
    rcases hw with hw | ⟨t, hw⟩
    · rw [hw]; exact RowKit.Below.refl _ _
    · rw [hw]; exact Lib.bytesWorld_below _ _ _⟩
theorem parseSyn_c {s : ByteArray} {H : AHeap} (hs : s.size ≤ 1048576) (h : Lib.parseIntB 64 s.data.toList = Lib.parseIntB 64 []) : ACd Tryd.prog 42 [.string s, .int .i64 10, .int .i64 64] H (.tuple #[.int .i64 0, .iface 86 (.pointer (some ⟨H.next, 0, none⟩))]) ((H.push (.cells [] 1)).kill H.next) :=
  acd_err (fun v hv => by
    simp only [List.mem_cons, List.not_mem_nil, or_false] at hv
    rcases hv with rfl | rfl | rfl
    · exact id_string _
    · exact id_int _ _
    · exact id_int _ _) fun w hg => by
    obtain ⟨tp, p, hv⟩ := var_syn hg
    exact (Any.strconv_ParseInt_10_at64_syntax_var Tryd.lays174 s (by omega) h tp p w hv).mono fun e w' ⟨N, he, _, _, hb⟩ => ⟨N, he, hb⟩
theorem parseRng_c {s : ByteArray} {H : AHeap} (hs : s.size ≤ 1048576) (h : Lib.parseIntB 64 s.data.toList = .range) : ACd Tryd.prog 42 [.string s, .int .i64 10, .int .i64 64] H (.tuple #[.int .i64 (Lib.intSat 64 s.data.toList), .iface 86 (.pointer (some ⟨H.next, 0, none⟩))]) ((H.push (.cells [] 1)).kill H.next) :=
  acd_err (fun v hv => by
    simp only [List.mem_cons, List.not_mem_nil, or_false] at hv
    rcases hv with rfl | rfl | rfl
    · exact id_string _
    · exact id_int _ _
    · exact id_int _ _) fun w hg => by
    obtain ⟨tp, p, hv⟩ := var_rng hg
    exact (Any.strconv_ParseInt_10_at64_range_var Tryd.lays174 s (by omega) h tp p w hv).mono fun e w' ⟨N, he, _, _, hb⟩ => ⟨N, he, hb⟩

theorem fmtAny_c {n : Int} {H : AHeap} (h0 : -9223372036854775808 ≤ n) (h1 : n ≤ 9223372036854775807) : ACd Tryd.prog 40 [.int .i64 n, .int .i64 10] H (.string (itoaB n)) H :=
  acd_below (fun v hv => by
    simp only [List.mem_cons, List.not_mem_nil, or_false] at hv
    rcases hv with rfl | rfl
    · exact id_int _ _
    · exact id_int _ _) (fun β => .string _) fun w hg => (Any.strconv_FormatInt_10 Tryd.lays173 n h0 h1 w (var_tab hg)).mono fun e w' ⟨he, k, os, hw⟩ => ⟨he, by rw [hw]; exact Lib.below_grow _ _ (Nat.le_refl _) _ _⟩

-- impl.decimal
theorem decAny_c {n : Int} {H : AHeap} (h0 : -9223372036854775808 ≤ n) (h1 : n ≤ 9223372036854775807) : ACd Tryd.prog 21 [.int .i64 n] H (.string (itoaB n)) (H) := by
  refine ac_gc0 (fun β => VR.plainT β (by first | rfl | simp [plainT, plainV, plain1])) (ac_body Tryd.func21 rfl Tryd.ntmps21 rfl ?_)
  refine aw_seq ?_
  refine aw_region ?_
  refine al_opd rfl rfl rfl (ao_as (v := .string _) rfl) ?_
  refine al_nilT ?_
  refine aw_seq ?_
  refine aw_region ?_
  refine al_opd rfl rfl rfl (ao_mv (v := .int _ _) rfl) ?_
  refine al_opd rfl rfl rfl (ao_calld (fmtAny_c (n := n) h0 h1) Tryd.call40 rfl rfl) ?_
  refine al_opd rfl rfl rfl (ao_as (v := .string _) rfl) ?_
  refine al_nilT ?_
  refine aw_ret ?_
  refine ends1 rfl (rv_tmp (v := .string _) rfl) ?_
  exact ⟨by first | rfl | (simp [*]; (first | done | fail)), by exact SMp⟩

-- impl.number
theorem numA_c {a : Int} {H : AHeap} (h0 : 0 ≤ a) (h9 : a ≤ 9) : ACd Tryd.prog 29 [.string (strOf [48 + a]), .int .i64 9] H (.tuple #[.int .i64 a, .bool true]) (H) := by
  refine ac_gc0 (fun β => VR.plainT β (by first | rfl | simp [plainT, plainV, plain1])) (ac_body Tryd.func29 rfl Tryd.ntmps29 rfl ?_)
  refine aw_seq ?_
  refine aw_region ?_
  refine al_opd rfl rfl rfl (ao_as (v := .int _ _) rfl) ?_
  refine al_opd rfl rfl rfl (ao_as (v := .bool _) rfl) ?_
  refine al_nilT ?_
  refine aw_seq ?_
  refine aw_region ?_
  refine al_opd rfl rfl rfl (ao_mv (v := .string _) rfl) ?_
  refine al_opd rfl rfl rfl (ao_calld (parseOk_c (s := strOf [48 + a]) (v := a) (by rw [strOf_size]; show 1 ≤ 1048576; omega) (parse_dig h0 h9)) Tryd.call42 rfl rfl) ?_
  refine al_opd rfl rfl rfl (ao_mv (v := .tuple _) rfl) ?_
  refine al_opd rfl rfl rfl (ao_extract (v := .int _ _) rfl rfl) ?_
  refine al_opd rfl rfl rfl (ao_extract (v := _) rfl rfl) ?_
  refine al_opd rfl rfl rfl (ao_as (v := .int _ _) rfl) ?_
  refine al_opd rfl rfl rfl (ao_as (v := _) rfl) ?_
  refine al_nilT ?_
  refine aw_seq ?_
  refine aw_seq ?_
  refine aw_region ?_
  refine al_opd rfl rfl rfl (ao_mv (v := _) rfl) ?_
  first | refine al_opd rfl rfl rfl (ao_neIN (by kernel_rfl) rfl rfl) ?_ | refine al_opd rfl rfl rfl (ao_neNI (by kernel_rfl) rfl rfl) ?_
  refine al_opd rfl rfl rfl (ao_mv (v := .bool _) rfl) ?_
  refine al_cases (d := 15) rfl (fun h1_ => ?_) (fun h1_ => ?_)
  · try simp only [nrm] at h1_
    first | done | omega | (exfalso; revert h1_; simp; (first | done | omega))
  try simp only [nrm] at h1_
  refine al_gyes rfl rfl rfl rfl rfl (ao_mv (v := .int _ _) rfl) ?_
  refine al_gyes rfl rfl rfl rfl rfl (ao_calld (decimal_c (n := a) h0 h9) Tryd.call21 rfl rfl) ?_
  refine al_gyes rfl rfl rfl rfl rfl (ao_mv (v := .string _) rfl) ?_
  refine al_gyes rfl rfl rfl rfl rfl (ao_sneq rfl rfl) ?_
  refine al_opd rfl rfl rfl (ao_pickF rfl (v := .bool _) rfl) ?_
  refine al_opd rfl rfl rfl (ao_mv (v := .bool _) rfl) ?_
  refine al_cases (d := 21) rfl (fun h2_ => ?_) (fun h2_ => ?_)
  · try simp only [nrm] at h2_
    first | done | omega | (exfalso; revert h2_; simp; (first | done | omega))
  try simp only [nrm] at h2_
  refine al_gyes rfl rfl rfl rfl rfl (ao_mv (v := .int _ _) rfl) ?_
  refine al_gyes rfl rfl rfl rfl rfl (ao_mv (v := .int _ _) rfl) ?_
  refine al_gyes rfl rfl rfl rfl rfl (ao_calld (within_c) Tryd.call37 rfl rfl) ?_
  refine al_gyes rfl rfl rfl rfl rfl (ao_not rfl) ?_
  refine al_opd rfl rfl rfl (ao_pickF rfl (v := .bool _) rfl) ?_
  refine al_nilT ?_
  refine aw_cond rfl (fun h3_ => ?_) (fun h3_ => ?_)
  · try simp only [nrm] at h3_
    first | done | omega | (exfalso; revert h3_; simp; (first | done | omega))
  try simp only [nrm] at h3_
  refine aw_skipT ?_
  refine aw_seq ?_
  refine aw_region ?_
  refine al_opd rfl rfl rfl (ao_mv (v := .int _ _) rfl) ?_
  refine al_opd rfl rfl rfl (ao_as (v := .int _ _) rfl) ?_
  refine al_opd rfl rfl rfl (ao_as (v := .bool _) rfl) ?_
  refine al_nilT ?_
  refine aw_ret ?_
  refine ends2 rfl (rv_tmp (v := .int _ _) rfl) (rv_tmp (v := .bool _) rfl) ?_
  exact ⟨by first | rfl | (simp [*]; (first | done | fail)), by exact SMp⟩

-- impl.number
theorem numB_c {s : ByteArray} {v : Int} {H : AHeap} (hs : s.size ≤ 1048576) (hno : noDig s) (hv : Lib.parseIntB 64 s.data.toList = .ok v) : ACd Tryd.prog 29 [.string s, .int .i64 9] H (.tuple #[.int .i64 0, .bool false]) (H) := by
  have ⟨b1, b2⟩ := Lib.parseIntB_bounds hv
  have e63 : ((2 ^ (64 - 1) : Nat) : Int) = 9223372036854775808 := by decide
  refine ac_gc0 (fun β => VR.plainT β (by first | rfl | simp [plainT, plainV, plain1])) (ac_body Tryd.func29 rfl Tryd.ntmps29 rfl ?_)
  refine aw_seq ?_
  refine aw_region ?_
  refine al_opd rfl rfl rfl (ao_as (v := .int _ _) rfl) ?_
  refine al_opd rfl rfl rfl (ao_as (v := .bool _) rfl) ?_
  refine al_nilT ?_
  refine aw_seq ?_
  refine aw_region ?_
  refine al_opd rfl rfl rfl (ao_mv (v := .string _) rfl) ?_
  refine al_opd rfl rfl rfl (ao_calld (parseOk_c (s := s) (v := v) hs hv) Tryd.call42 rfl rfl) ?_
  refine al_opd rfl rfl rfl (ao_mv (v := .tuple _) rfl) ?_
  refine al_opd rfl rfl rfl (ao_extract (v := .int _ _) rfl rfl) ?_
  refine al_opd rfl rfl rfl (ao_extract (v := _) rfl rfl) ?_
  refine al_opd rfl rfl rfl (ao_as (v := .int _ _) rfl) ?_
  refine al_opd rfl rfl rfl (ao_as (v := _) rfl) ?_
  refine al_nilT ?_
  refine aw_seq ?_
  refine aw_seq ?_
  refine aw_region ?_
  refine al_opd rfl rfl rfl (ao_mv (v := _) rfl) ?_
  first | refine al_opd rfl rfl rfl (ao_neIN (by kernel_rfl) rfl rfl) ?_ | refine al_opd rfl rfl rfl (ao_neNI (by kernel_rfl) rfl rfl) ?_
  refine al_opd rfl rfl rfl (ao_mv (v := .bool _) rfl) ?_
  refine al_cases (d := 15) rfl (fun h1_ => ?_) (fun h1_ => ?_)
  · try simp only [nrm] at h1_
    first | done | omega | (exfalso; revert h1_; simp; (first | done | omega))
  try simp only [nrm] at h1_
  refine al_gyes rfl rfl rfl rfl rfl (ao_mv (v := .int _ _) rfl) ?_
  refine al_gyes rfl rfl rfl rfl rfl (ao_calld (decAny_c (n := v) (by omega) (by omega)) Tryd.call21 rfl rfl) ?_
  refine al_gyes rfl rfl rfl rfl rfl (ao_mv (v := .string _) rfl) ?_
  refine al_gyes rfl rfl rfl rfl rfl (ao_sneq rfl rfl) ?_
  refine al_opd rfl rfl rfl (ao_pickF rfl (v := .bool _) rfl) ?_
  refine al_opd rfl rfl rfl (ao_mv (v := .bool _) rfl) ?_
  refine al_cases (d := 21) rfl (fun h2_ => ?_) (fun h2_ => ?_)
  · try simp only [nrm] at h2_
    refine al_gno rfl rfl rfl rfl rfl ?_
    refine al_gno rfl rfl rfl rfl rfl ?_
    refine al_gno rfl rfl rfl rfl rfl ?_
    refine al_gno rfl rfl rfl rfl rfl ?_
    refine al_opd rfl rfl rfl (ao_pickT rfl (v := .bool _) rfl) ?_
    refine al_nilT ?_
    refine aw_condT (by rfl) ⟨_, rfl⟩ ?_
    refine aw_seq ?_
    refine aw_region ?_
    refine al_opd rfl rfl rfl (ao_as (v := .int _ _) rfl) ?_
    refine al_opd rfl rfl rfl (ao_as (v := .bool _) rfl) ?_
    refine al_nilT ?_
    refine aw_ret ?_
    refine thenA_r ?_
    refine ends2 rfl (rv_tmp (v := .int _ _) rfl) (rv_tmp (v := .bool _) rfl) ?_
    exact ⟨by first | rfl | (simp [*]; (first | done | fail)), by exact SMp⟩
  · try simp only [nrm] at h2_
    refine al_gyes rfl rfl rfl rfl rfl (ao_mv (v := .int _ _) rfl) ?_
    refine al_gyes rfl rfl rfl rfl rfl (ao_mv (v := .int _ _) rfl) ?_
    refine al_gyes rfl rfl rfl rfl rfl (ao_calld (within_c) Tryd.call37 rfl rfl) ?_
    refine al_gyes rfl rfl rfl rfl rfl (ao_not rfl) ?_
    refine al_opd rfl rfl rfl (ao_pickF rfl (v := .bool _) rfl) ?_
    refine al_nilT ?_
    refine aw_cond rfl (fun h3_ => ?_) (fun h3_ => ?_)
    rotate_left
    · try simp only [nrm] at h3_
      exact absurd ((toL_inj h2_).symm.trans (itoa_dig (by omega) (by omega))) (hno v (by omega) (by omega))
    try simp only [nrm] at h3_
    refine aw_seq ?_
    refine aw_region ?_
    refine al_opd rfl rfl rfl (ao_as (v := .int _ _) rfl) ?_
    refine al_opd rfl rfl rfl (ao_as (v := .bool _) rfl) ?_
    refine al_nilT ?_
    refine aw_ret ?_
    refine thenA_r ?_
    refine ends2 rfl (rv_tmp (v := .int _ _) rfl) (rv_tmp (v := .bool _) rfl) ?_
    exact ⟨by first | rfl | (simp [*]; (first | done | fail)), by exact SMp⟩

-- impl.number
theorem numC_c {s : ByteArray} {H : AHeap} (hs : s.size ≤ 1048576) (hno : noDig s) (hv : Lib.parseIntB 64 s.data.toList = Lib.parseIntB 64 []) : ACd Tryd.prog 29 [.string s, .int .i64 9] H (.tuple #[.int .i64 0, .bool false]) (H) := by
  refine ac_gc0 (fun β => VR.plainT β (by first | rfl | simp [plainT, plainV, plain1])) (ac_body Tryd.func29 rfl Tryd.ntmps29 rfl ?_)
  refine aw_seq ?_
  refine aw_region ?_
  refine al_opd rfl rfl rfl (ao_as (v := .int _ _) rfl) ?_
  refine al_opd rfl rfl rfl (ao_as (v := .bool _) rfl) ?_
  refine al_nilT ?_
  refine aw_seq ?_
  refine aw_region ?_
  refine al_opd rfl rfl rfl (ao_mv (v := .string _) rfl) ?_
  refine al_opd rfl rfl rfl (ao_calld (parseSyn_c (s := s) hs hv) Tryd.call42 rfl rfl) ?_
  refine al_opd rfl rfl rfl (ao_mv (v := .tuple _) rfl) ?_
  refine al_opd rfl rfl rfl (ao_extract (v := .int _ _) rfl rfl) ?_
  refine al_opd rfl rfl rfl (ao_extract (v := _) rfl rfl) ?_
  refine al_opd rfl rfl rfl (ao_as (v := .int _ _) rfl) ?_
  refine al_opd rfl rfl rfl (ao_as (v := _) rfl) ?_
  refine al_nilT ?_
  refine aw_seq ?_
  refine aw_seq ?_
  refine aw_region ?_
  refine al_opd rfl rfl rfl (ao_mv (v := _) rfl) ?_
  first | refine al_opd rfl rfl rfl (ao_neIN (by kernel_rfl) rfl rfl) ?_ | refine al_opd rfl rfl rfl (ao_neNI (by kernel_rfl) rfl rfl) ?_
  refine al_opd rfl rfl rfl (ao_mv (v := .bool _) rfl) ?_
  refine al_cases (d := 15) rfl (fun h1_ => ?_) (fun h1_ => ?_)
  rotate_left
  · try simp only [nrm] at h1_
    first | done | omega | (exfalso; revert h1_; simp; (first | done | omega))
  try simp only [nrm] at h1_
  refine al_gno rfl rfl rfl rfl rfl ?_
  refine al_gno rfl rfl rfl rfl rfl ?_
  refine al_gno rfl rfl rfl rfl rfl ?_
  refine al_gno rfl rfl rfl rfl rfl ?_
  refine al_opd rfl rfl rfl (ao_pickT rfl (v := .bool _) rfl) ?_
  refine al_opd rfl rfl rfl (ao_mv (v := .bool _) rfl) ?_
  refine al_gno rfl rfl rfl rfl rfl ?_
  refine al_gno rfl rfl rfl rfl rfl ?_
  refine al_gno rfl rfl rfl rfl rfl ?_
  refine al_gno rfl rfl rfl rfl rfl ?_
  refine al_opd rfl rfl rfl (ao_pickT rfl (v := .bool _) rfl) ?_
  refine al_nilT ?_
  refine aw_condT (by rfl) ⟨_, rfl⟩ ?_
  refine aw_seq ?_
  refine aw_region ?_
  refine al_opd rfl rfl rfl (ao_as (v := .int _ _) rfl) ?_
  refine al_opd rfl rfl rfl (ao_as (v := .bool _) rfl) ?_
  refine al_nilT ?_
  refine aw_ret ?_
  refine thenA_r ?_
  refine ends2 rfl (rv_tmp (v := .int _ _) rfl) (rv_tmp (v := .bool _) rfl) ?_
  exact ⟨by first | rfl | (simp [*]; (first | done | fail)), by exact SMp⟩

-- impl.number
theorem numD_c {s : ByteArray} {H : AHeap} (hs : s.size ≤ 1048576) (hno : noDig s) (hv : Lib.parseIntB 64 s.data.toList = .range) : ACd Tryd.prog 29 [.string s, .int .i64 9] H (.tuple #[.int .i64 0, .bool false]) (H) := by
  refine ac_gc0 (fun β => VR.plainT β (by first | rfl | simp [plainT, plainV, plain1])) (ac_body Tryd.func29 rfl Tryd.ntmps29 rfl ?_)
  refine aw_seq ?_
  refine aw_region ?_
  refine al_opd rfl rfl rfl (ao_as (v := .int _ _) rfl) ?_
  refine al_opd rfl rfl rfl (ao_as (v := .bool _) rfl) ?_
  refine al_nilT ?_
  refine aw_seq ?_
  refine aw_region ?_
  refine al_opd rfl rfl rfl (ao_mv (v := .string _) rfl) ?_
  refine al_opd rfl rfl rfl (ao_calld (parseRng_c (s := s) hs hv) Tryd.call42 rfl rfl) ?_
  refine al_opd rfl rfl rfl (ao_mv (v := .tuple _) rfl) ?_
  refine al_opd rfl rfl rfl (ao_extract (v := .int _ _) rfl rfl) ?_
  refine al_opd rfl rfl rfl (ao_extract (v := _) rfl rfl) ?_
  refine al_opd rfl rfl rfl (ao_as (v := .int _ _) rfl) ?_
  refine al_opd rfl rfl rfl (ao_as (v := _) rfl) ?_
  refine al_nilT ?_
  refine aw_seq ?_
  refine aw_seq ?_
  refine aw_region ?_
  refine al_opd rfl rfl rfl (ao_mv (v := _) rfl) ?_
  first | refine al_opd rfl rfl rfl (ao_neIN (by kernel_rfl) rfl rfl) ?_ | refine al_opd rfl rfl rfl (ao_neNI (by kernel_rfl) rfl rfl) ?_
  refine al_opd rfl rfl rfl (ao_mv (v := .bool _) rfl) ?_
  refine al_cases (d := 15) rfl (fun h1_ => ?_) (fun h1_ => ?_)
  rotate_left
  · try simp only [nrm] at h1_
    first | done | omega | (exfalso; revert h1_; simp; (first | done | omega))
  try simp only [nrm] at h1_
  refine al_gno rfl rfl rfl rfl rfl ?_
  refine al_gno rfl rfl rfl rfl rfl ?_
  refine al_gno rfl rfl rfl rfl rfl ?_
  refine al_gno rfl rfl rfl rfl rfl ?_
  refine al_opd rfl rfl rfl (ao_pickT rfl (v := .bool _) rfl) ?_
  refine al_opd rfl rfl rfl (ao_mv (v := .bool _) rfl) ?_
  refine al_gno rfl rfl rfl rfl rfl ?_
  refine al_gno rfl rfl rfl rfl rfl ?_
  refine al_gno rfl rfl rfl rfl rfl ?_
  refine al_gno rfl rfl rfl rfl rfl ?_
  refine al_opd rfl rfl rfl (ao_pickT rfl (v := .bool _) rfl) ?_
  refine al_nilT ?_
  refine aw_condT (by rfl) ⟨_, rfl⟩ ?_
  refine aw_seq ?_
  refine aw_region ?_
  refine al_opd rfl rfl rfl (ao_as (v := .int _ _) rfl) ?_
  refine al_opd rfl rfl rfl (ao_as (v := .bool _) rfl) ?_
  refine al_nilT ?_
  refine aw_ret ?_
  refine thenA_r ?_
  refine ends2 rfl (rv_tmp (v := .int _ _) rfl) (rv_tmp (v := .bool _) rfl) ?_
  exact ⟨by first | rfl | (simp [*]; (first | done | fail)), by exact SMp⟩

theorem num_c {s : ByteArray} {a : Int} {one : Bool} {H : AHeap} (hs : s.size ≤ 1048576) (hN : numIs s a one) : ACd Tryd.prog 29 [.string s, .int .i64 9] H (.tuple #[.int .i64 a, .bool one]) H := by
  rcases hN with ⟨rfl, h0, h9, rfl⟩ | ⟨rfl, rfl, hno⟩
  · exact numA_c h0 h9
  · cases hv : Lib.parseIntB 64 s.data.toList with
    | ok v => exact numB_c hs hno hv
    | range => exact numD_c hs hno hv
    | _ => exact numC_c hs hno hv

end Go.Proofs.YtlcfmbaeaieomaaDoor
