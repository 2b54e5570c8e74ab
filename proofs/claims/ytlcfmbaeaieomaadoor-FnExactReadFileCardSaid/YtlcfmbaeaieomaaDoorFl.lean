/- Contracts of the program's functions over abstract heaps. -/
import Derived.Test.YtlcfmbaeaieomaaDoorFile
import Derived.Test.YtlcfmbaeaieomaaDoorLaws
import Derived.Test.YtlcfmbaeaieomaaDoorRm
namespace Go.Proofs.YtlcfmbaeaieomaaDoor
open Go Go.AW Go.Proofs
set_option linter.unusedVariables false
set_option linter.unusedSimpArgs false
set_option maxRecDepth 100000
set_option maxHeartbeats 2000000

-- spec.l01Has
theorem l01Has_c {l : List Spot} {w : Value} {x : Spot} {b : Bool} {H : AHeap} (hh0 : Sl H spot 2 w l) (hn : l.length ≤ 4194304) (hb : b = true ↔ ∃ j, j < l.length ∧ (fun j => l[j]? = some x) j) : ACd Tryd.prog 44 [w, .agg #[.int .i8 x.x, .int .i8 x.y]] H (.bool b) (H) := by
  have hh : Sl (H.push (.cells [.int .i8 x.x, .int .i8 x.y] 1)) spot 2 w l := hh0.mono (by exact SMp)
  refine ac_gc0 (fun β => VR.plainT β (by first | rfl | simp [plainT, plainV, plain1])) (ac_body Tryd.func44 rfl Tryd.ntmps44 rfl ?_)
  refine aw_seq ?_
  refine aw_region ?_
  refine al_opd rfl rfl rfl (ao_boxa (by rfl)) ?_
  refine al_opd rfl rfl rfl (ao_as (v := .bool _) rfl) ?_
  refine al_nilT ?_
  refine aw_seq ?_
  refine aw_seq ?_
  refine aw_region ?_
  refine al_opd rfl rfl rfl (ao_as (v := .int _ _) rfl) ?_
  refine al_nilT ?_
  refine aw_block ?_
  refine aw_loop (fun (gk : Nat) (fr : AFr) (G : AHeap) => ∃ get : Nat → Value, fr = ⟨18, get⟩ ∧ (∃ i : Nat, i ≤ l.length ∧ gk = l.length - i ∧ G = H.push (.cells [.int .i8 x.x, .int .i8 x.y] 1) ∧ get 0 = w ∧ get 3 = .pointer (some ⟨H.next, 0, none⟩) ∧ get 5 = .int .i64 i ∧ ∀ j, j < i → ¬ (fun j => l[j]? = some x) j)) (l.length) ⟨_, rfl, ?_⟩ ?_
  · exact ⟨0, Nat.zero_le _, rfl, rfl, rfl, rfl, rfl, fun j h => by omega⟩
  · rintro gk fr G ⟨get, rfl, i, hi, rfl, rfl, g0, g3, g5, hm⟩
    refine aw_slot (d := 0) (v := w) (by first | assumption | rfl) ?_
    refine aw_slot (d := 3) (v := .pointer (some ⟨H.next, 0, none⟩)) (by first | assumption | rfl) ?_
    refine aw_slot (d := 5) (v := .int .i64 i) (by first | assumption | rfl) ?_
    refine aw_seq ?_
    refine aw_seq ?_
    refine aw_region ?_
    refine al_opd rfl rfl rfl (ao_mv (v := .int _ _) rfl) ?_
    first | refine al_opd rfl rfl rfl (ao_mv (v := .slice _ _ _) rfl) ?_ | refine al_opd rfl rfl rfl (ao_mv (v := w) rfl) ?_
    first | refine al_opd rfl rfl rfl (ao_lenS Tryd.underlying25 (by rfl)) ?_ | refine al_opd rfl rfl rfl (ao_lenN Tryd.underlying25 (by rfl)) ?_ | refine al_opd rfl rfl rfl (ao_lenV Tryd.underlying25 rfl hh) ?_
    refine al_opd rfl rfl rfl (ao_lss rfl rfl) ?_
    refine al_nilT ?_
    refine aw_cond rfl (fun h1_ => ?_) (fun h1_ => ?_)
    · try simp only [nrm] at h1_
      obtain ⟨y, hy⟩ := get_lt (show i < l.length by omega)
      refine aw_skipT ?_
      refine aw_seq ?_
      refine aw_block ?_
      refine aw_seq ?_
      refine aw_draw (m := 6) mo (by kernel_rfl) rfl (fun _ _ _ h => h) ?_
      first | refine dw_opd rfl rfl rfl (ao_mv (v := .slice _ _ _) rfl) ?_ | refine dw_opd rfl rfl rfl (ao_mv (v := w) rfl) ?_
      refine dw_opd rfl rfl rfl (ao_mv (v := .int _ _) rfl) ?_
      first | refine dw_opd rfl rfl rfl (ao_indexAddrS Tryd.underlying25 Tryd.sizeOf37 rfl rfl (by exact IXp) (by exact IXp)) ?_ | refine dw_opd rfl rfl rfl (ao_indexV Tryd.underlying25 Tryd.sizeOf37 rfl rfl hh (by exact IXp) (by exact IXp)) ?_
      first | refine dw_opd rfl rfl rfl (ao_loada Tryd.isAgg37 Tryd.sizeOf37 rfl (by exact HLp) (by rfl) (by exact RFp)) ?_ | refine dw_opd rfl rfl rfl (ao_loadsV (A := #[.int _ _, .int _ _]) Tryd.isAgg37 Tryd.sizeOf37 hh rfl hy rfl (by decide)) ?_
      first | refine dw_opd rfl rfl rfl (ao_loada Tryd.isAgg37 Tryd.sizeOf37 rfl (by exact HLp) (by rfl) (by exact RFp)) ?_ | refine dw_opd rfl rfl rfl (ao_loadsV (A := #[.int _ _, .int _ _]) Tryd.isAgg37 Tryd.sizeOf37 hh rfl hy rfl (by decide)) ?_
      refine dw_opd rfl rfl rfl ((ao_eqV Tryd.eqGuardType37 rfl rfl rfl rfl (eqS37 _ _ _ _)).val (congrArg Value.bool (spot_eq y x))) ?_
      refine dw_end ?_
      refine al_nilT ?_
      refine aw_cond rfl (fun h2_ => ?_) (fun h2_ => ?_)
      · try simp only [nrm] at h2_
        refine aw_seq ?_
        refine aw_region ?_
        refine al_opd rfl rfl rfl (ao_as (v := .bool _) rfl) ?_
        refine al_nilT ?_
        refine aw_ret ?_
        refine blockA_r ?_
        refine thenA_r ?_
        refine thenA_r ?_
        refine blockA_r ?_
        refine thenA_r ?_
        refine ends1 rfl (rv_tmp (v := .bool _) rfl) ?_
        exact ⟨bt hb ⟨i, by omega, by subst h2_; exact hy⟩, by exact SMp⟩
      · try simp only [nrm] at h2_
        refine aw_skipB ?_
        refine thenA_n ?_
        refine aw_region ?_
        refine al_opd rfl rfl rfl (ao_mv (v := .int _ _) rfl) ?_
        first | refine al_opd rfl rfl rfl ((ao_add rfl rfl).val (nw_i64 BDp BDp)) ?_ | refine al_opd rfl rfl rfl (ao_add rfl rfl) ?_
        refine al_opd rfl rfl rfl (ao_as (v := .int _ _) rfl) ?_
        refine al_nilT ?_
        refine ⟨_, ?_, _, rfl, i + 1, by omega, rfl, rfl, rfl, rfl, by rfl, fun j hj => ?_⟩
        · omega
        · rcases Nat.lt_or_ge j i with h9 | h9
          · exact hm j h9
          · obtain rfl : j = i := by omega
            intro e; rw [hy] at e; cases e; first | exact h2_ rfl | simp_all
    · try simp only [nrm] at h1_
      refine aw_exit ?_
      refine thenA_x ?_
      refine thenA_x ?_
      refine blockA_hit ?_
      refine thenA_n ?_
      refine aw_seq ?_
      refine aw_region ?_
      refine al_opd rfl rfl rfl (ao_as (v := .bool _) rfl) ?_
      refine al_nilT ?_
      refine aw_ret ?_
      refine ends1 rfl (rv_tmp (v := .bool _) rfl) ?_
      exact ⟨bf hb (fun ⟨j, hj, e⟩ => hm j (by omega) e), by exact SMp⟩

-- slices.Index[impl.File,impl.Spot]
theorem indexF_c {l : List Spot} {w : Value} {x : Spot} {r : Int} {H : AHeap} (hh0 : Sl H spot 2 w l) (hn : l.length ≤ 4194304) (hr : firstAt (fun j => l[j]? = some x) l.length r) : ACd Tryd.prog 45 [w, .agg #[.int .i8 x.x, .int .i8 x.y]] H (.int .i64 r) (H) := by
  have hh : Sl (H.push (.cells [.int .i8 x.x, .int .i8 x.y] 1)) spot 2 w l := hh0.mono (by exact SMp)
  refine ac_gc0 (fun β => VR.plainT β (by first | rfl | simp [plainT, plainV, plain1])) (ac_body Tryd.func45 rfl Tryd.ntmps45 rfl ?_)
  refine aw_seq ?_
  refine aw_region ?_
  refine al_opd rfl rfl rfl (ao_boxa (by rfl)) ?_
  refine al_opd rfl rfl rfl (ao_as (v := .int _ _) rfl) ?_
  refine al_nilT ?_
  refine aw_seq ?_
  refine aw_seq ?_
  refine aw_region ?_
  first | refine al_opd rfl rfl rfl (ao_mv (v := .slice _ _ _) rfl) ?_ | refine al_opd rfl rfl rfl (ao_mv (v := w) rfl) ?_
  first | refine al_opd rfl rfl rfl (ao_lenS Tryd.underlying26 (by rfl)) ?_ | refine al_opd rfl rfl rfl (ao_lenN Tryd.underlying26 (by rfl)) ?_ | refine al_opd rfl rfl rfl (ao_lenV Tryd.underlying26 rfl hh) ?_
  refine al_opd rfl rfl rfl (ao_mv (v := .int _ _) rfl) ?_
  refine al_nilT ?_
  refine aw_block ?_
  refine aw_loop (fun (gk : Nat) (fr : AFr) (G : AHeap) => ∃ get : Nat → Value, fr = ⟨19, get⟩ ∧ (∃ i : Nat, i ≤ l.length ∧ gk = l.length - i ∧ G = H.push (.cells [.int .i8 x.x, .int .i8 x.y] 1) ∧ get 0 = w ∧ get 3 = .pointer (some ⟨H.next, 0, none⟩) ∧ get 7 = .int .i64 l.length ∧ get 8 = .int .i64 i ∧ ∀ j, j < i → ¬ (fun j => l[j]? = some x) j)) (l.length) ⟨_, rfl, ?_⟩ ?_
  · exact ⟨0, Nat.zero_le _, rfl, rfl, rfl, rfl, rfl, rfl, fun j h => by omega⟩
  · rintro gk fr G ⟨get, rfl, i, hi, rfl, rfl, g0, g3, g7, g8, hm⟩
    refine aw_slot (d := 0) (v := w) (by first | assumption | rfl) ?_
    refine aw_slot (d := 3) (v := .pointer (some ⟨H.next, 0, none⟩)) (by first | assumption | rfl) ?_
    refine aw_slot (d := 7) (v := .int .i64 l.length) (by first | assumption | rfl) ?_
    refine aw_slot (d := 8) (v := .int .i64 i) (by first | assumption | rfl) ?_
    refine aw_seq ?_
    refine aw_region ?_
    refine al_opd rfl rfl rfl (ao_lss rfl rfl) ?_
    refine al_nilT ?_
    refine aw_seq ?_
    refine aw_cond rfl (fun h1_ => ?_) (fun h1_ => ?_)
    · try simp only [nrm] at h1_
      obtain ⟨y, hy⟩ := get_lt (show i < l.length by omega)
      refine aw_skipT ?_
      refine aw_seq ?_
      refine aw_block ?_
      refine aw_seq ?_
      refine aw_region ?_
      refine al_opd rfl rfl rfl (ao_mv (v := .int _ _) rfl) ?_
      refine al_opd rfl rfl rfl (ao_as (v := .int _ _) rfl) ?_
      refine al_nilT ?_
      refine aw_seq ?_
      refine aw_draw (m := 6) mo (by kernel_rfl) rfl (fun _ _ _ h => h) ?_
      first | refine dw_opd rfl rfl rfl (ao_loada Tryd.isAgg37 Tryd.sizeOf37 rfl (by exact HLp) (by rfl) (by exact RFp)) ?_ | refine dw_opd rfl rfl rfl (ao_loadsV (A := #[.int _ _, .int _ _]) Tryd.isAgg37 Tryd.sizeOf37 hh rfl hy rfl (by decide)) ?_
      first | refine dw_opd rfl rfl rfl (ao_mv (v := .slice _ _ _) rfl) ?_ | refine dw_opd rfl rfl rfl (ao_mv (v := w) rfl) ?_
      refine dw_opd rfl rfl rfl (ao_mv (v := .int _ _) rfl) ?_
      first | refine dw_opd rfl rfl rfl (ao_indexAddrS Tryd.underlying26 Tryd.sizeOf37 rfl rfl (by exact IXp) (by exact IXp)) ?_ | refine dw_opd rfl rfl rfl (ao_indexV Tryd.underlying26 Tryd.sizeOf37 rfl rfl hh (by exact IXp) (by exact IXp)) ?_
      first | refine dw_opd rfl rfl rfl (ao_loada Tryd.isAgg37 Tryd.sizeOf37 rfl (by exact HLp) (by rfl) (by exact RFp)) ?_ | refine dw_opd rfl rfl rfl (ao_loadsV (A := #[.int _ _, .int _ _]) Tryd.isAgg37 Tryd.sizeOf37 hh rfl hy rfl (by decide)) ?_
      refine dw_opd rfl rfl rfl ((ao_eqV Tryd.eqGuardType37 rfl rfl rfl rfl (eqS37 _ _ _ _)).val (congrArg Value.bool (spot_eq x y))) ?_
      refine dw_end ?_
      refine al_nilT ?_
      refine aw_cond rfl (fun h2_ => ?_) (fun h2_ => ?_)
      · try simp only [nrm] at h2_
        refine aw_seq ?_
        refine aw_region ?_
        refine al_opd rfl rfl rfl (ao_mv (v := .int _ _) rfl) ?_
        refine al_opd rfl rfl rfl (ao_as (v := .int _ _) rfl) ?_
        refine al_nilT ?_
        refine aw_ret ?_
        refine blockA_r ?_
        refine thenA_r ?_
        refine thenA_r ?_
        refine blockA_r ?_
        refine thenA_r ?_
        refine ends1 rfl (rv_tmp (v := .int _ _) rfl) ?_
        exact ⟨congrArg (Value.int .i64) (firstAt_hit hr (by omega) (by subst h2_; exact hy) hm), by exact SMp⟩
      · try simp only [nrm] at h2_
        refine aw_skipB ?_
        refine thenA_n ?_
        refine aw_region ?_
        first | refine al_opd rfl rfl rfl ((ao_add rfl rfl).val (nw_i64 BDp BDp)) ?_ | refine al_opd rfl rfl rfl (ao_add rfl rfl) ?_
        refine al_opd rfl rfl rfl (ao_mv (v := .int _ _) rfl) ?_
        refine al_nilT ?_
        refine ⟨_, ?_, _, rfl, i + 1, by omega, rfl, rfl, rfl, rfl, rfl, by rfl, fun j hj => ?_⟩
        · omega
        · rcases Nat.lt_or_ge j i with h9 | h9
          · exact hm j h9
          · obtain rfl : j = i := by omega
            intro e; rw [hy] at e; cases e; first | exact h2_ rfl | simp_all
    · try simp only [nrm] at h1_
      refine aw_exit ?_
      refine thenA_x ?_
      refine thenA_x ?_
      refine blockA_hit ?_
      refine thenA_n ?_
      refine aw_seq ?_
      refine aw_region ?_
      refine al_opd rfl rfl rfl (ao_as (v := .int _ _) rfl) ?_
      refine al_nilT ?_
      refine aw_ret ?_
      refine ends1 rfl (rv_tmp (v := .int _ _) rfl) ?_
      obtain rfl : i = l.length := by omega
      exact ⟨congrArg (Value.int .i64) (firstAt_none hr hm), by exact SMp⟩

-- slices.Contains[impl.File,impl.Spot]
theorem containsF_c {l : List Spot} {w : Value} {x : Spot} {b : Bool} {H : AHeap} (hh0 : Sl H spot 2 w l) (hn : l.length ≤ 4194304) (hb : b = true ↔ ∃ j, j < l.length ∧ (fun j => l[j]? = some x) j) : ACd Tryd.prog 36 [w, .agg #[.int .i8 x.x, .int .i8 x.y]] H (.bool b) (H) := by
  obtain ⟨r, hr⟩ := exists_first (fun j => l[j]? = some x) l.length
  refine ac_gc0 (fun β => VR.plainT β (by first | rfl | simp [plainT, plainV, plain1])) (ac_body Tryd.func36 rfl Tryd.ntmps36 rfl ?_)
  refine aw_seq ?_
  refine aw_region ?_
  refine al_opd rfl rfl rfl (ao_boxa (by rfl)) ?_
  refine al_opd rfl rfl rfl (ao_as (v := .bool _) rfl) ?_
  refine al_nilT ?_
  refine aw_seq ?_
  refine aw_region ?_
  first | refine al_opd rfl rfl rfl (ao_mv (v := .slice _ _ _) rfl) ?_ | refine al_opd rfl rfl rfl (ao_mv (v := w) rfl) ?_
  refine al_opd rfl rfl rfl (ao_loada Tryd.isAgg37 Tryd.sizeOf37 rfl (by exact HLp) (by rfl) (by exact RFp)) ?_
  refine al_opd rfl rfl rfl (ao_calld (indexF_c (l := l) (w := w) (x := x) (r := r) (hh0.mono (by exact SMp)) hn hr) Tryd.call45 rfl rfl) ?_
  refine al_opd rfl rfl rfl (ao_geq rfl rfl) ?_
  refine al_opd rfl rfl rfl (ao_as (v := .bool _) rfl) ?_
  refine al_nilT ?_
  refine aw_ret ?_
  refine ends1 rfl (rv_tmp (v := .bool _) rfl) ?_
  exact ⟨bdec hb (firstAt_ge hr).symm, by exact SMp⟩

-- slices.IndexFunc[impl.File,impl.Spot]
theorem indexSp_c {fnum : Nat} {fs cs : Array Value} {l : List Spot} {w : Value} {p : Spot → Prop} {r : Int} {H : AHeap} (hc : ∀ (args : Array Value) (w : World), (callFunc fnum args).run Tryd.prog w = .ok (.enter fnum args) w) (hcall : ∀ (i : Nat) s, l[i]? = some s → ∃ b, (b = true ↔ p s) ∧ ACd Tryd.prog fnum (fs.toList ++ [.agg #[.int .i8 s.x, .int .i8 s.y]] ++ cs.toList) H (.bool b) H) (hh : Sl H spot 2 w l) (hn : l.length ≤ 4194304) (hr : firstAt (fun j => ∃ s, l[j]? = some s ∧ p s) l.length r) : ACd Tryd.prog 39 [w, .func (.func fnum) fs cs] H (.int .i64 r) (H) := by
  refine ac_gc0 (fun β => VR.plainT β (by first | rfl | simp [plainT, plainV, plain1])) (ac_body Tryd.func39 rfl Tryd.ntmps39 rfl ?_)
  refine aw_seq ?_
  refine aw_region ?_
  refine al_opd rfl rfl rfl (ao_as (v := .int _ _) rfl) ?_
  refine al_nilT ?_
  refine aw_seq ?_
  refine aw_seq ?_
  refine aw_region ?_
  first | refine al_opd rfl rfl rfl (ao_mv (v := .slice _ _ _) rfl) ?_ | refine al_opd rfl rfl rfl (ao_mv (v := w) rfl) ?_ | refine al_opd rfl rfl rfl (ao_mv (v := .func (.func fnum) fs cs) rfl) ?_
  first | refine al_opd rfl rfl rfl (ao_lenS Tryd.underlying26 (by rfl)) ?_ | refine al_opd rfl rfl rfl (ao_lenN Tryd.underlying26 (by rfl)) ?_ | refine al_opd rfl rfl rfl (ao_lenV Tryd.underlying26 rfl hh) ?_
  refine al_opd rfl rfl rfl (ao_mv (v := .int _ _) rfl) ?_
  refine al_nilT ?_
  refine aw_block ?_
  refine aw_loop (fun (gk : Nat) (fr : AFr) (G : AHeap) => ∃ get : Nat → Value, fr = ⟨19, get⟩ ∧ (∃ i : Nat, i ≤ l.length ∧ gk = l.length - i ∧ H = G ∧ get 0 = w ∧ get 1 = .func (.func fnum) fs cs ∧ get 7 = .int .i64 l.length ∧ get 8 = .int .i64 i ∧ ∀ j, j < i → ¬ (fun j => ∃ s, l[j]? = some s ∧ p s) j)) (l.length) ⟨_, rfl, ?_⟩ ?_
  · exact ⟨0, Nat.zero_le _, rfl, rfl, rfl, rfl, rfl, rfl, fun j h => by omega⟩
  · rintro gk fr G ⟨get, rfl, i, hi, rfl, rfl, g0, g1, g7, g8, hm⟩
    refine aw_slot (d := 0) (v := w) (by first | assumption | rfl) ?_
    refine aw_slot (d := 1) (v := .func (.func fnum) fs cs) (by first | assumption | rfl) ?_
    refine aw_slot (d := 7) (v := .int .i64 l.length) (by first | assumption | rfl) ?_
    refine aw_slot (d := 8) (v := .int .i64 i) (by first | assumption | rfl) ?_
    refine aw_seq ?_
    refine aw_region ?_
    refine al_opd rfl rfl rfl (ao_lss rfl rfl) ?_
    refine al_nilT ?_
    refine aw_seq ?_
    refine aw_cond rfl (fun h1_ => ?_) (fun h1_ => ?_)
    · try simp only [nrm] at h1_
      obtain ⟨y, hy⟩ := get_lt (show i < l.length by omega)
      obtain ⟨b, hb, hcl⟩ := hcall i y hy
      refine aw_skipT ?_
      refine aw_seq ?_
      refine aw_block ?_
      refine aw_seq ?_
      refine aw_region ?_
      refine al_opd rfl rfl rfl (ao_mv (v := .int _ _) rfl) ?_
      refine al_opd rfl rfl rfl (ao_as (v := .int _ _) rfl) ?_
      refine al_nilT ?_
      refine aw_seq ?_
      refine aw_region ?_
      first | refine al_opd rfl rfl rfl (ao_mv (v := .func _ _ _) rfl) ?_ | refine al_opd rfl rfl rfl (ao_mv (v := w) rfl) ?_ | refine al_opd rfl rfl rfl (ao_mv (v := .func (.func fnum) fs cs) rfl) ?_
      first | refine al_opd rfl rfl rfl (ao_mv (v := .slice _ _ _) rfl) ?_ | refine al_opd rfl rfl rfl (ao_mv (v := w) rfl) ?_ | refine al_opd rfl rfl rfl (ao_mv (v := .func (.func fnum) fs cs) rfl) ?_
      refine al_opd rfl rfl rfl (ao_mv (v := .int _ _) rfl) ?_
      first | refine al_opd rfl rfl rfl (ao_indexAddrS Tryd.underlying26 Tryd.sizeOf37 rfl rfl (by exact IXp) (by exact IXp)) ?_ | refine al_opd rfl rfl rfl (ao_indexV Tryd.underlying26 Tryd.sizeOf37 rfl rfl hh (by exact IXp) (by exact IXp)) ?_
      first | refine al_opd rfl rfl rfl (ao_loada Tryd.isAgg37 Tryd.sizeOf37 rfl (by exact HLp) (by rfl) (by exact RFp)) ?_ | refine al_opd rfl rfl rfl (ao_loadsV (A := #[.int _ _, .int _ _]) Tryd.isAgg37 Tryd.sizeOf37 hh rfl hy rfl (by decide)) ?_
      refine al_opd rfl rfl rfl (ao_callv hc (by rfl) (by rfl) hcl) ?_
      refine al_nilT ?_
      refine aw_cond rfl (fun h2_ => ?_) (fun h2_ => ?_)
      · try simp only [nrm] at h2_
        refine aw_seq ?_
        refine aw_region ?_
        refine al_opd rfl rfl rfl (ao_mv (v := .int _ _) rfl) ?_
        refine al_opd rfl rfl rfl (ao_as (v := .int _ _) rfl) ?_
        refine al_nilT ?_
        refine aw_ret ?_
        refine blockA_r ?_
        refine thenA_r ?_
        refine thenA_r ?_
        refine blockA_r ?_
        refine thenA_r ?_
        refine ends1 rfl (rv_tmp (v := .int _ _) rfl) ?_
        exact ⟨congrArg (Value.int .i64) (firstAt_hit hr (by omega) ⟨y, hy, hb.mp (by first | assumption | simp_all)⟩ hm), by exact SMp⟩
      · try simp only [nrm] at h2_
        refine aw_skipB ?_
        refine thenA_n ?_
        refine aw_region ?_
        first | refine al_opd rfl rfl rfl ((ao_add rfl rfl).val (nw_i64 BDp BDp)) ?_ | refine al_opd rfl rfl rfl (ao_add rfl rfl) ?_
        refine al_opd rfl rfl rfl (ao_mv (v := .int _ _) rfl) ?_
        refine al_nilT ?_
        refine ⟨_, ?_, _, rfl, i + 1, by omega, rfl, rfl, rfl, rfl, rfl, by rfl, fun j hj => ?_⟩
        · omega
        · rcases Nat.lt_or_ge j i with h9 | h9
          · exact hm j h9
          · obtain rfl : j = i := by omega
            rintro ⟨y', hy', e⟩; rw [hy] at hy'; cases hy'; have := hb.mpr e; simp_all
    · try simp only [nrm] at h1_
      refine aw_exit ?_
      refine thenA_x ?_
      refine thenA_x ?_
      refine blockA_hit ?_
      refine thenA_n ?_
      refine aw_seq ?_
      refine aw_region ?_
      refine al_opd rfl rfl rfl (ao_as (v := .int _ _) rfl) ?_
      refine al_nilT ?_
      refine aw_ret ?_
      refine ends1 rfl (rv_tmp (v := .int _ _) rfl) ?_
      obtain rfl : i = l.length := by omega
      exact ⟨congrArg (Value.int .i64) (firstAt_none hr hm), by exact SMp⟩

-- slices.ContainsFunc[impl.File,impl.Spot]
theorem containsSp_c {fnum : Nat} {fs cs : Array Value} {l : List Spot} {w : Value} {p : Spot → Prop} {b : Bool} {H : AHeap} (hc : ∀ (args : Array Value) (w : World), (callFunc fnum args).run Tryd.prog w = .ok (.enter fnum args) w) (hcall : ∀ (i : Nat) s, l[i]? = some s → ∃ b, (b = true ↔ p s) ∧ ACd Tryd.prog fnum (fs.toList ++ [.agg #[.int .i8 s.x, .int .i8 s.y]] ++ cs.toList) H (.bool b) H) (hh : Sl H spot 2 w l) (hn : l.length ≤ 4194304) (hb : b = true ↔ ∃ j, j < l.length ∧ (fun j => ∃ s, l[j]? = some s ∧ p s) j) : ACd Tryd.prog 18 [w, .func (.func fnum) fs cs] H (.bool b) (H) := by
  obtain ⟨r, hr⟩ := exists_first (fun j => ∃ s, l[j]? = some s ∧ p s) l.length
  refine ac_gc0 (fun β => VR.plainT β (by first | rfl | simp [plainT, plainV, plain1])) (ac_body Tryd.func18 rfl Tryd.ntmps18 rfl ?_)
  refine aw_seq ?_
  refine aw_region ?_
  refine al_opd rfl rfl rfl (ao_as (v := .bool _) rfl) ?_
  refine al_nilT ?_
  refine aw_seq ?_
  refine aw_region ?_
  first | refine al_opd rfl rfl rfl (ao_mv (v := .slice _ _ _) rfl) ?_ | refine al_opd rfl rfl rfl (ao_mv (v := w) rfl) ?_ | refine al_opd rfl rfl rfl (ao_mv (v := .func (.func fnum) fs cs) rfl) ?_
  first | refine al_opd rfl rfl rfl (ao_mv (v := .func _ _ _) rfl) ?_ | refine al_opd rfl rfl rfl (ao_mv (v := w) rfl) ?_ | refine al_opd rfl rfl rfl (ao_mv (v := .func (.func fnum) fs cs) rfl) ?_
  refine al_opd rfl rfl rfl (ao_calld (indexSp_c (l := l) (w := w) (p := p) (r := r) hc hcall hh hn hr) Tryd.call39 rfl rfl) ?_
  refine al_opd rfl rfl rfl (ao_geq rfl rfl) ?_
  refine al_opd rfl rfl rfl (ao_as (v := .bool _) rfl) ?_
  refine al_nilT ?_
  refine aw_ret ?_
  refine ends1 rfl (rv_tmp (v := .bool _) rfl) ?_
  exact ⟨bdec hb (firstAt_ge hr).symm, by exact SMp⟩

-- impl.size[impl.Spot]
theorem sizeSpot_c {v : Value} {l : List Spot} {H : AHeap} (ha : Sl H spot 2 v l) : ACd Tryd.prog 38 [v] H (.int .i64 l.length) (H) := by
  refine ac_gc0 (fun β => VR.plainT β (by first | rfl | simp [plainT, plainV, plain1])) (ac_body Tryd.func38 rfl Tryd.ntmps38 rfl ?_)
  refine aw_seq ?_
  refine aw_region ?_
  refine al_opd rfl rfl rfl (ao_as (v := .int _ _) rfl) ?_
  refine al_nilT ?_
  refine aw_seq ?_
  refine aw_region ?_
  first | refine al_opd rfl rfl rfl (ao_mv (v := .slice _ _ _) rfl) ?_ | refine al_opd rfl rfl rfl (ao_mv (v := v) rfl) ?_
  first | refine al_opd rfl rfl rfl (ao_lenS Tryd.underlying25 (by rfl)) ?_ | refine al_opd rfl rfl rfl (ao_lenN Tryd.underlying25 (by rfl)) ?_ | refine al_opd rfl rfl rfl (ao_lenV Tryd.underlying25 rfl ha) ?_
  refine al_opd rfl rfl rfl (ao_as (v := .int _ _) rfl) ?_
  refine al_nilT ?_
  refine aw_ret ?_
  refine ends1 rfl (rv_tmp (v := .int _ _) rfl) ?_
  exact ⟨by first | rfl | (simp [*]; (first | done | fail)), by exact SMp⟩

-- (impl.File).isChain
theorem isChain_c {l : List Spot} {lb c' : Nat} {b : Bool} {H : AHeap} (hk0 : H.blk lb = some (.cells (fl spot l) 2)) (hcc' : l.length ≤ c') (hn : l.length ≤ 4194304) (hb : b = true ↔ chain l) : ACd Tryd.prog 17 [.slice (some ⟨lb, 0, none⟩) l.length c'] H (.bool b) (H) := by
  have hh0 : Sl H spot 2 (.slice (some ⟨lb, 0, none⟩) l.length c') l := Sl.full spot_len hk0 rfl rfl rfl
  have hlt0 := AHeap.lt hk0
  refine ac_gc0 (fun β => VR.plainT β (by first | rfl | simp [plainT, plainV, plain1])) (ac_body Tryd.func17 rfl Tryd.ntmps17 rfl ?_)
  refine aw_seq ?_
  refine aw_region ?_
  refine al_opd rfl rfl rfl (ao_as (v := .bool _) rfl) ?_
  refine al_nilT ?_
  refine aw_seq ?_
  refine aw_seq ?_
  refine aw_region ?_
  refine al_opd rfl rfl rfl (ao_mv (v := .slice _ _ _) rfl) ?_
  first | refine al_opd rfl rfl rfl (ao_lenS Tryd.underlying26 (by rfl)) ?_ | refine al_opd rfl rfl rfl (ao_lenN Tryd.underlying26 (by rfl)) ?_ | refine al_opd rfl rfl rfl (ao_lenV Tryd.underlying26 rfl hh) ?_ | refine al_opd rfl rfl rfl (ao_lenV Tryd.underlying26 rfl hh') ?_
  refine al_opd rfl rfl rfl (ao_mv (v := .int _ _) rfl) ?_
  refine al_nilT ?_
  refine aw_block ?_
  refine aw_loop (fun (gk : Nat) (fr : AFr) (G : AHeap) => ∃ get : Nat → Value, fr = ⟨35, get⟩ ∧ (∃ i : Nat, i ≤ l.length ∧ gk = l.length - i ∧ Same H.next H G ∧ H.next ≤ G.next ∧ get 0 = .slice (some ⟨lb, 0, none⟩) l.length c' ∧ get 5 = .slice (some ⟨lb, 0, none⟩) l.length c' ∧ get 6 = .int .i64 l.length ∧ get 7 = .int .i64 i ∧ ∀ j, j < i → lineAt l j)) (l.length) ⟨_, rfl, ?_⟩ ?_
  · exact ⟨0, Nat.zero_le _, rfl, by exact SMp, by exact LEp, rfl, rfl, rfl, rfl, fun j h => by omega⟩
  · rintro gk fr G ⟨get, rfl, i, hi, rfl, hG, hnx, g0, g5, g6, g7, hq⟩
    have hkG : G.blk lb = some (.cells (fl spot l) 2) := (hG _ hlt0).trans hk0
    have hh : Sl G spot 2 (.slice (some ⟨lb, 0, none⟩) l.length c') l := Sl.full spot_len hkG rfl rfl rfl
    refine aw_slot (d := 0) (v := .slice (some ⟨lb, 0, none⟩) l.length c') (by first | assumption | rfl) ?_
    refine aw_slot (d := 5) (v := .slice (some ⟨lb, 0, none⟩) l.length c') (by first | assumption | rfl) ?_
    refine aw_slot (d := 6) (v := .int .i64 l.length) (by first | assumption | rfl) ?_
    refine aw_slot (d := 7) (v := .int .i64 i) (by first | assumption | rfl) ?_
    refine aw_seq ?_
    refine aw_region ?_
    refine al_opd rfl rfl rfl (ao_lss rfl rfl) ?_
    refine al_nilT ?_
    refine aw_seq ?_
    refine aw_cond rfl (fun h1_ => ?_) (fun h1_ => ?_)
    · try simp only [nrm] at h1_
      obtain ⟨x, hx⟩ := get_lt (show i < l.length by omega)
      obtain ⟨bc, hbc⟩ := exists_bool (∃ j, j < (l.take i).length ∧ (fun j => (l.take i)[j]? = some x) j)
      have hh' : Sl (G.push (.cells [.int .i8 x.x, .int .i8 x.y] 1)) spot 2 (.slice (some ⟨lb, 0, none⟩) l.length c') l := hh.mono (by exact SMp)
      refine aw_skipT ?_
      refine aw_seq ?_
      refine aw_block ?_
      refine aw_seq ?_
      refine aw_region ?_
      refine al_opd rfl rfl rfl (ao_mv (v := .int _ _) rfl) ?_
      first | refine al_opd rfl rfl rfl (ao_indexAddrS Tryd.underlying26 Tryd.sizeOf37 rfl rfl (by exact IXp) (by exact IXp)) ?_ | refine al_opd rfl rfl rfl (ao_indexV Tryd.underlying26 Tryd.sizeOf37 rfl rfl hh (by exact IXp) (by exact IXp)) ?_ | refine al_opd rfl rfl rfl (ao_indexV Tryd.underlying26 Tryd.sizeOf37 rfl rfl hh' (by exact IXp) (by exact IXp)) ?_
      first | refine al_opd rfl rfl rfl (ao_loada Tryd.isAgg37 Tryd.sizeOf37 rfl (by exact HLp) (by rfl) (by exact RFp)) ?_ | refine al_opd rfl rfl rfl (ao_loadsV (A := #[.int _ _, .int _ _]) Tryd.isAgg37 Tryd.sizeOf37 hh rfl hx rfl (by decide)) ?_ | refine al_opd rfl rfl rfl (ao_loadsV (A := #[.int _ _, .int _ _]) Tryd.isAgg37 Tryd.sizeOf37 hh rfl hy rfl (by decide)) ?_ | refine al_opd rfl rfl rfl (ao_loadsV (A := #[.int _ _, .int _ _]) Tryd.isAgg37 Tryd.sizeOf37 hh' rfl hx rfl (by decide)) ?_ | refine al_opd rfl rfl rfl (ao_loadsV (A := #[.int _ _, .int _ _]) Tryd.isAgg37 Tryd.sizeOf37 hh' rfl hy rfl (by decide)) ?_
      refine al_opd rfl rfl rfl (ao_alloca (zv37) (by rfl)) ?_
      refine al_opd rfl rfl rfl (ao_as (v := .int _ _) rfl) ?_
      first | refine al_opd rfl rfl rfl ((ao_storeL Tryd.sizeOf37 (by rfl) (by rfl) (by exact HLp) (by exact RFp) (by exact RFp) (by exact RFp)).to (SetR.eq (by exact SRp))) ?_ | refine al_opd rfl rfl rfl ((ao_storeP (ds := [.int _ _, .int _ _]) Tryd.sizeOf37 (by rfl) (by rfl) (by exact HLp) (by exact RFp) (by exact RFp) (by exact LTp)).to (SetR.eq (by exact SRp))) ?_
      refine al_nilT ?_
      refine aw_seq ?_
      refine aw_draw (m := 19) mo (by kernel_rfl) rfl (fun _ _ _ h => h) ?_
      refine dw_opd rfl rfl rfl (ao_mv (v := .slice _ _ _) rfl) ?_
      refine dw_opd rfl rfl rfl (ao_mv (v := .int _ _) rfl) ?_
      refine dw_opd rfl rfl rfl (ao_sliceHi Tryd.underlying26 Tryd.sizeOf37 (by rfl) (by rfl) (by first | rfl | omega) (by exact HLp) (by rfl) (by exact IXp)) ?_
      first | refine dw_opd rfl rfl rfl (ao_loada Tryd.isAgg37 Tryd.sizeOf37 rfl (by exact HLp) (by rfl) (by exact RFp)) ?_ | refine dw_opd rfl rfl rfl (ao_loadsV (A := #[.int _ _, .int _ _]) Tryd.isAgg37 Tryd.sizeOf37 hh rfl hx rfl (by decide)) ?_ | refine dw_opd rfl rfl rfl (ao_loadsV (A := #[.int _ _, .int _ _]) Tryd.isAgg37 Tryd.sizeOf37 hh rfl hy rfl (by decide)) ?_ | refine dw_opd rfl rfl rfl (ao_loadsV (A := #[.int _ _, .int _ _]) Tryd.isAgg37 Tryd.sizeOf37 hh' rfl hx rfl (by decide)) ?_ | refine dw_opd rfl rfl rfl (ao_loadsV (A := #[.int _ _, .int _ _]) Tryd.isAgg37 Tryd.sizeOf37 hh' rfl hy rfl (by decide)) ?_
      refine dw_opd rfl rfl rfl (ao_calld (containsF_c (l := l.take i) (x := x) (b := bc) (Sl.part (i := 0) spot_len (by exact HLp) rfl rfl (by omega) rfl (by simp; omega)) (by simp; omega) hbc) Tryd.call36 rfl rfl) ?_
      refine dw_opd rfl rfl rfl (ao_mv (v := .bool _) rfl) ?_
      refine dw_cases (d := 17) rfl (fun h2_ => ?_) (fun h2_ => ?_)
      · try simp only [nrm] at h2_
        refine dw_gno rfl rfl rfl rfl rfl rfl ?_
        refine dw_gno rfl rfl rfl rfl rfl rfl ?_
        refine dw_gno rfl rfl rfl rfl rfl rfl ?_
        refine dw_gnu rfl rfl rfl rfl rfl ?_
        refine dw_gnu rfl rfl rfl rfl rfl ?_
        refine dw_gnu rfl rfl rfl rfl rfl ?_
        refine dw_gnu rfl rfl rfl rfl rfl ?_
        refine dw_gnu rfl rfl rfl rfl rfl ?_
        refine dw_gnu rfl rfl rfl rfl rfl ?_
        refine dw_gnu rfl rfl rfl rfl rfl ?_
        refine dw_gnu rfl rfl rfl rfl rfl ?_
        refine dw_gno rfl rfl rfl rfl rfl rfl ?_
        refine dw_opd rfl rfl rfl (ao_pickT rfl (v := .bool _) rfl) ?_
        refine dw_end ?_
        refine al_nilT ?_
        refine aw_condT (by rfl) ⟨_, rfl⟩ ?_
        refine aw_seq ?_
        refine aw_region ?_
        refine al_opd rfl rfl rfl (ao_as (v := .bool _) rfl) ?_
        refine al_nilT ?_
        refine aw_ret ?_
        refine blockA_r ?_
        refine thenA_r ?_
        refine thenA_r ?_
        refine blockA_r ?_
        refine thenA_r ?_
        refine ends1 rfl (rv_tmp (v := .bool _) rfl) ?_
        exact ⟨bf hb (fun q => by obtain ⟨j, hj, e⟩ := hbc.mp h2_; exact take_hit e fun hj hy => (q.1 i (by omega) x hx).2 j x hj hy rfl), by exact SMp⟩
      · try simp only [nrm] at h2_
        have hdist : ∀ (j : Nat) y, j < i → l[j]? = some y → y ≠ x := fun j y hj hy e => (Bool.eq_false_iff.mp (by simpa using h2_)) (hbc.mpr ⟨j, by simp; omega, by show (l.take i)[j]? = some x; rw [List.getElem?_take, if_pos hj, hy, e]⟩)
        refine dw_gyes rfl rfl rfl rfl rfl (ao_mv (v := .int _ _) rfl) ?_
        refine dw_gyes rfl rfl rfl rfl rfl (ao_gtr rfl rfl) ?_
        refine dw_gyes rfl rfl rfl rfl rfl (ao_mv (v := .bool _) rfl) ?_
        refine dw_cases (d := 20) rfl (fun h3_ => ?_) (fun h3_ => ?_)
        · try simp only [nrm] at h3_
          obtain ⟨y, hy⟩ := get_lt (show i - 1 < l.length by omega)
          refine dw_gyes rfl rfl rfl rfl rfl (ao_mv (v := .slice _ _ _) rfl) ?_
          refine dw_gyes rfl rfl rfl rfl rfl (ao_mv (v := .int _ _) rfl) ?_
          refine dw_gyes rfl rfl rfl rfl rfl ((ao_sub rfl rfl).val (subn i (by omega) (by omega))) ?_
          first | refine dw_gyes rfl rfl rfl rfl rfl (ao_indexAddrS Tryd.underlying26 Tryd.sizeOf37 rfl rfl (by exact IXp) (by exact IXp)) ?_ | refine dw_gyes rfl rfl rfl rfl rfl (ao_indexV Tryd.underlying26 Tryd.sizeOf37 rfl rfl hh (by exact IXp) (by exact IXp)) ?_ | refine dw_gyes rfl rfl rfl rfl rfl (ao_indexV Tryd.underlying26 Tryd.sizeOf37 rfl rfl hh' (by exact IXp) (by exact IXp)) ?_
          first | refine dw_gyes rfl rfl rfl rfl rfl (ao_loada Tryd.isAgg37 Tryd.sizeOf37 rfl (by exact HLp) (by rfl) (by exact RFp)) ?_ | refine dw_gyes rfl rfl rfl rfl rfl (ao_loadsV (A := #[.int _ _, .int _ _]) Tryd.isAgg37 Tryd.sizeOf37 hh rfl hx rfl (by decide)) ?_ | refine dw_gyes rfl rfl rfl rfl rfl (ao_loadsV (A := #[.int _ _, .int _ _]) Tryd.isAgg37 Tryd.sizeOf37 hh rfl hy rfl (by decide)) ?_ | refine dw_gyes rfl rfl rfl rfl rfl (ao_loadsV (A := #[.int _ _, .int _ _]) Tryd.isAgg37 Tryd.sizeOf37 hh' rfl hx rfl (by decide)) ?_ | refine dw_gyes rfl rfl rfl rfl rfl (ao_loadsV (A := #[.int _ _, .int _ _]) Tryd.isAgg37 Tryd.sizeOf37 hh' rfl hy rfl (by decide)) ?_
          first | refine dw_gyes rfl rfl rfl rfl rfl (ao_loada Tryd.isAgg37 Tryd.sizeOf37 rfl (by exact HLp) (by rfl) (by exact RFp)) ?_ | refine dw_gyes rfl rfl rfl rfl rfl (ao_loadsV (A := #[.int _ _, .int _ _]) Tryd.isAgg37 Tryd.sizeOf37 hh rfl hx rfl (by decide)) ?_ | refine dw_gyes rfl rfl rfl rfl rfl (ao_loadsV (A := #[.int _ _, .int _ _]) Tryd.isAgg37 Tryd.sizeOf37 hh rfl hy rfl (by decide)) ?_ | refine dw_gyes rfl rfl rfl rfl rfl (ao_loadsV (A := #[.int _ _, .int _ _]) Tryd.isAgg37 Tryd.sizeOf37 hh' rfl hx rfl (by decide)) ?_ | refine dw_gyes rfl rfl rfl rfl rfl (ao_loadsV (A := #[.int _ _, .int _ _]) Tryd.isAgg37 Tryd.sizeOf37 hh' rfl hy rfl (by decide)) ?_
          refine dw_gyes rfl rfl rfl rfl rfl (ao_calld (implSide_c (a := y) (b := x) (r := sideOf y x) (sideOf_first y x)) Tryd.call22 rfl rfl) ?_
          refine dw_gyes rfl rfl rfl rfl rfl (ao_lss rfl rfl) ?_
          refine dw_gyes rfl rfl rfl rfl rfl (ao_pickT rfl (v := .bool _) rfl) ?_
          refine dw_opd rfl rfl rfl (ao_pickF rfl (v := .bool _) rfl) ?_
          refine dw_end ?_
          refine al_nilT ?_
          refine aw_cond rfl (fun h4_ => ?_) (fun h4_ => ?_)
          · try simp only [nrm] at h4_
            refine aw_seq ?_
            refine aw_region ?_
            refine al_opd rfl rfl rfl (ao_as (v := .bool _) rfl) ?_
            refine al_nilT ?_
            refine aw_ret ?_
            refine blockA_r ?_
            refine thenA_r ?_
            refine thenA_r ?_
            refine blockA_r ?_
            refine thenA_r ?_
            refine ends1 rfl (rv_tmp (v := .bool _) rfl) ?_
            exact ⟨bf hb (fun q => by exact absurd ((sideOf_ok _ _).mpr ((q.1 i (by omega) x hx).1 (i - 1) y (by omega) hy)) (by omega)), by exact SMp⟩
          · try simp only [nrm] at h4_
            refine aw_skipB ?_
            refine thenA_n ?_
            refine aw_region ?_
            first | refine al_opd rfl rfl rfl ((ao_add rfl rfl).val (nw_i64 BDp BDp)) ?_ | refine al_opd rfl rfl rfl (ao_add rfl rfl) ?_
            refine al_opd rfl rfl rfl (ao_mv (v := .int _ _) rfl) ?_
            refine al_nilT ?_
            refine ⟨_, ?_, _, rfl, i + 1, by omega, rfl, by exact SMp, by exact LEp, rfl, rfl, rfl, by rfl, fun j hj => ?_⟩
            · omega
            · rcases Nat.lt_or_ge j i with h9 | h9
              · exact hq j h9
              · obtain rfl : j = i := by omega
                intro x' hx'; rw [hx] at hx'; cases hx'
                refine ⟨fun j' y' e hy' => ?_, hdist⟩
                first | (exfalso; omega) | (rw [show j' = j - 1 by omega, hy] at hy'; cases hy'; exact (sideOf_ok _ _).mp (by omega))
        · try simp only [nrm] at h3_
          refine dw_gno rfl rfl rfl rfl rfl rfl ?_
          refine dw_gno rfl rfl rfl rfl rfl rfl ?_
          refine dw_gno rfl rfl rfl rfl rfl rfl ?_
          refine dw_gno rfl rfl rfl rfl rfl rfl ?_
          refine dw_gno rfl rfl rfl rfl rfl rfl ?_
          refine dw_gno rfl rfl rfl rfl rfl rfl ?_
          refine dw_gno rfl rfl rfl rfl rfl rfl ?_
          refine dw_gno rfl rfl rfl rfl rfl rfl ?_
          refine dw_gyes rfl rfl rfl rfl rfl (ao_pickF rfl (v := .bool _) rfl) ?_
          refine dw_opd rfl rfl rfl (ao_pickF rfl (v := .bool _) rfl) ?_
          refine dw_end ?_
          refine al_nilT ?_
          refine aw_condF (by rfl) ⟨_, rfl⟩ ?_
          refine aw_skipB ?_
          refine thenA_n ?_
          refine aw_region ?_
          first | refine al_opd rfl rfl rfl ((ao_add rfl rfl).val (nw_i64 BDp BDp)) ?_ | refine al_opd rfl rfl rfl (ao_add rfl rfl) ?_
          refine al_opd rfl rfl rfl (ao_mv (v := .int _ _) rfl) ?_
          refine al_nilT ?_
          refine ⟨_, ?_, _, rfl, i + 1, by omega, rfl, by exact SMp, by exact LEp, rfl, rfl, rfl, by rfl, fun j hj => ?_⟩
          · omega
          · rcases Nat.lt_or_ge j i with h9 | h9
            · exact hq j h9
            · obtain rfl : j = i := by omega
              intro x' hx'; rw [hx] at hx'; cases hx'
              refine ⟨fun j' y' e hy' => ?_, hdist⟩
              first | (exfalso; omega) | (rw [show j' = j - 1 by omega, hy] at hy'; cases hy'; exact (sideOf_ok _ _).mp (by omega))
    · try simp only [nrm] at h1_
      refine aw_exit ?_
      refine thenA_x ?_
      refine thenA_x ?_
      refine blockA_hit ?_
      refine thenA_n ?_
      refine aw_seq ?_
      refine aw_region ?_
      refine al_opd rfl rfl rfl (ao_mv (v := .slice _ _ _) rfl) ?_
      refine al_opd rfl rfl rfl (ao_calld (sizeSpot_c (l := l) hh) Tryd.call38 rfl rfl) ?_
      refine al_opd rfl rfl rfl (ao_calld (within_c) Tryd.call37 rfl rfl) ?_
      refine al_opd rfl rfl rfl (ao_as (v := .bool _) rfl) ?_
      refine al_nilT ?_
      refine aw_ret ?_
      refine ends1 rfl (rv_tmp (v := .bool _) rfl) ?_
      exact ⟨beqv hb (by simp only [Bool.and_eq_true, decide_eq_true_eq]; exact ⟨fun e => ⟨fun j hj => hq j (by omega), by omega, by omega⟩, fun q => ⟨by have := q.2.1; omega, by have := q.2.2; omega⟩⟩), by exact SMp⟩

-- spec.l02Line
theorem l02Line_c {l : List Spot} {lb c' : Nat} {b : Bool} {H : AHeap} (hk0 : H.blk lb = some (.cells (fl spot l) 2)) (hcc' : l.length ≤ c') (hn : l.length ≤ 4194304) (hb : b = true ↔ chain l) : ACd Tryd.prog 33 [.slice (some ⟨lb, 0, none⟩) l.length c'] H (.bool b) (H) := by
  have hh0 : Sl H spot 2 (.slice (some ⟨lb, 0, none⟩) l.length c') l := Sl.full spot_len hk0 rfl rfl rfl
  have hlt0 := AHeap.lt hk0
  refine ac_gc0 (fun β => VR.plainT β (by first | rfl | simp [plainT, plainV, plain1])) (ac_body Tryd.func33 rfl Tryd.ntmps33 rfl ?_)
  refine aw_seq ?_
  refine aw_region ?_
  refine al_opd rfl rfl rfl (ao_as (v := .bool _) rfl) ?_
  refine al_nilT ?_
  refine aw_seq ?_
  refine aw_seq ?_
  refine aw_region ?_
  refine al_opd rfl rfl rfl (ao_as (v := .int _ _) rfl) ?_
  refine al_nilT ?_
  refine aw_block ?_
  refine aw_loop (fun (gk : Nat) (fr : AFr) (G : AHeap) => ∃ get : Nat → Value, fr = ⟨38, get⟩ ∧ (∃ i : Nat, i ≤ l.length ∧ gk = l.length - i ∧ H = G ∧ get 0 = .slice (some ⟨lb, 0, none⟩) l.length c' ∧ get 3 = .int .i64 i ∧ ∀ j, j < i → lineAt l j)) (l.length) ⟨_, rfl, ?_⟩ ?_
  · exact ⟨0, Nat.zero_le _, rfl, rfl, rfl, rfl, fun j h => by omega⟩
  · rintro gk fr G ⟨get, rfl, i, hi, rfl, rfl, g0, g3, hq⟩
    refine aw_slot (d := 0) (v := .slice (some ⟨lb, 0, none⟩) l.length c') (by first | assumption | rfl) ?_
    refine aw_slot (d := 3) (v := .int .i64 i) (by first | assumption | rfl) ?_
    refine aw_seq ?_
    refine aw_seq ?_
    refine aw_region ?_
    refine al_opd rfl rfl rfl (ao_mv (v := .int _ _) rfl) ?_
    refine al_opd rfl rfl rfl (ao_mv (v := .slice _ _ _) rfl) ?_
    first | refine al_opd rfl rfl rfl (ao_lenS Tryd.underlying26 (by rfl)) ?_ | refine al_opd rfl rfl rfl (ao_lenN Tryd.underlying26 (by rfl)) ?_ | refine al_opd rfl rfl rfl (ao_lenV Tryd.underlying26 rfl hh0) ?_
    refine al_opd rfl rfl rfl (ao_lss rfl rfl) ?_
    refine al_nilT ?_
    refine aw_cond rfl (fun h1_ => ?_) (fun h1_ => ?_)
    · try simp only [nrm] at h1_
      obtain ⟨x, hx⟩ := get_lt (show i < l.length by omega)
      obtain ⟨bc, hbc⟩ := exists_bool (∃ j, j < (l.take i).length ∧ (fun j => (l.take i)[j]? = some x) j)
      refine aw_skipT ?_
      refine aw_seq ?_
      refine aw_block ?_
      refine aw_seq ?_
      refine aw_draw (m := 25) mo (by kernel_rfl) rfl (fun _ _ _ h => h) ?_
      refine dw_opd rfl rfl rfl (ao_mv (v := .int _ _) rfl) ?_
      refine dw_opd rfl rfl rfl (ao_gtr rfl rfl) ?_
      refine dw_opd rfl rfl rfl (ao_mv (v := .bool _) rfl) ?_
      refine dw_cases (d := 12) rfl (fun h2_ => ?_) (fun h2_ => ?_)
      · try simp only [nrm] at h2_
        obtain ⟨y, hy⟩ := get_lt (show i - 1 < l.length by omega)
        refine dw_gyes rfl rfl rfl rfl rfl (ao_mv (v := .slice _ _ _) rfl) ?_
        refine dw_gyes rfl rfl rfl rfl rfl (ao_mv (v := .int _ _) rfl) ?_
        refine dw_gyes rfl rfl rfl rfl rfl ((ao_sub rfl rfl).val (subn i (by omega) (by omega))) ?_
        first | refine dw_gyes rfl rfl rfl rfl rfl (ao_indexAddrS Tryd.underlying26 Tryd.sizeOf37 rfl rfl (by exact IXp) (by exact IXp)) ?_ | refine dw_gyes rfl rfl rfl rfl rfl (ao_indexV Tryd.underlying26 Tryd.sizeOf37 rfl rfl hh0 (by exact IXp) (by exact IXp)) ?_
        first | refine dw_gyes rfl rfl rfl rfl rfl (ao_loada Tryd.isAgg37 Tryd.sizeOf37 rfl (by exact HLp) (by rfl) (by exact RFp)) ?_ | refine dw_gyes rfl rfl rfl rfl rfl (ao_loadsV (A := #[.int _ _, .int _ _]) Tryd.isAgg37 Tryd.sizeOf37 hh0 rfl hx rfl (by decide)) ?_ | refine dw_gyes rfl rfl rfl rfl rfl (ao_loadsV (A := #[.int _ _, .int _ _]) Tryd.isAgg37 Tryd.sizeOf37 hh0 rfl hy rfl (by decide)) ?_
        refine dw_gyes rfl rfl rfl rfl rfl (ao_mv (v := .slice _ _ _) rfl) ?_
        refine dw_gyes rfl rfl rfl rfl rfl (ao_mv (v := .int _ _) rfl) ?_
        first | refine dw_gyes rfl rfl rfl rfl rfl (ao_indexAddrS Tryd.underlying26 Tryd.sizeOf37 rfl rfl (by exact IXp) (by exact IXp)) ?_ | refine dw_gyes rfl rfl rfl rfl rfl (ao_indexV Tryd.underlying26 Tryd.sizeOf37 rfl rfl hh0 (by exact IXp) (by exact IXp)) ?_
        first | refine dw_gyes rfl rfl rfl rfl rfl (ao_loada Tryd.isAgg37 Tryd.sizeOf37 rfl (by exact HLp) (by rfl) (by exact RFp)) ?_ | refine dw_gyes rfl rfl rfl rfl rfl (ao_loadsV (A := #[.int _ _, .int _ _]) Tryd.isAgg37 Tryd.sizeOf37 hh0 rfl hx rfl (by decide)) ?_ | refine dw_gyes rfl rfl rfl rfl rfl (ao_loadsV (A := #[.int _ _, .int _ _]) Tryd.isAgg37 Tryd.sizeOf37 hh0 rfl hy rfl (by decide)) ?_
        refine dw_gyes rfl rfl rfl rfl rfl (ao_calld (l01To_c (a := y) (b := x) (r := sideOf y x) (sideOf_first y x)) Tryd.call35 rfl rfl) ?_
        refine dw_gyes rfl rfl rfl rfl rfl (ao_lss rfl rfl) ?_
        refine dw_opd rfl rfl rfl (ao_pickT rfl (v := .bool _) rfl) ?_
        refine dw_opd rfl rfl rfl (ao_mv (v := .bool _) rfl) ?_
        refine dw_cases (d := 25) rfl (fun h3_ => ?_) (fun h3_ => ?_)
        · try simp only [nrm] at h3_
          refine dw_gno rfl rfl rfl rfl rfl rfl ?_
          refine dw_gno rfl rfl rfl rfl rfl rfl ?_
          refine dw_gno rfl rfl rfl rfl rfl rfl ?_
          refine dw_gno rfl rfl rfl rfl rfl rfl ?_
          refine dw_gno rfl rfl rfl rfl rfl rfl ?_
          refine dw_gno rfl rfl rfl rfl rfl rfl ?_
          refine dw_gno rfl rfl rfl rfl rfl rfl ?_
          refine dw_gno rfl rfl rfl rfl rfl rfl ?_
          refine dw_opd rfl rfl rfl (ao_pickT rfl (v := .bool _) rfl) ?_
          refine dw_end ?_
          refine al_nilT ?_
          refine aw_condT (by rfl) ⟨_, rfl⟩ ?_
          refine aw_seq ?_
          refine aw_region ?_
          refine al_opd rfl rfl rfl (ao_as (v := .bool _) rfl) ?_
          refine al_nilT ?_
          refine aw_ret ?_
          refine blockA_r ?_
          refine thenA_r ?_
          refine thenA_r ?_
          refine blockA_r ?_
          refine thenA_r ?_
          refine ends1 rfl (rv_tmp (v := .bool _) rfl) ?_
          exact ⟨bf hb (fun q => by exact absurd ((sideOf_ok _ _).mpr ((q.1 i (by omega) x hx).1 (i - 1) y (by omega) hy)) (by omega)), by exact SMp⟩
        · try simp only [nrm] at h3_
          refine dw_gyes rfl rfl rfl rfl rfl (ao_mv (v := .slice _ _ _) rfl) ?_
          refine dw_gyes rfl rfl rfl rfl rfl (ao_mv (v := .int _ _) rfl) ?_
          refine dw_gyes rfl rfl rfl rfl rfl (ao_sliceHi Tryd.underlying26 Tryd.sizeOf37 (by rfl) (by rfl) (by first | rfl | omega) (by exact HLp) (by rfl) (by exact IXp)) ?_
          refine dw_gyes rfl rfl rfl rfl rfl (ao_mv (v := .slice _ _ _) rfl) ?_
          refine dw_gyes rfl rfl rfl rfl rfl (ao_mv (v := .int _ _) rfl) ?_
          first | refine dw_gyes rfl rfl rfl rfl rfl (ao_indexAddrS Tryd.underlying26 Tryd.sizeOf37 rfl rfl (by exact IXp) (by exact IXp)) ?_ | refine dw_gyes rfl rfl rfl rfl rfl (ao_indexV Tryd.underlying26 Tryd.sizeOf37 rfl rfl hh0 (by exact IXp) (by exact IXp)) ?_
          first | refine dw_gyes rfl rfl rfl rfl rfl (ao_loada Tryd.isAgg37 Tryd.sizeOf37 rfl (by exact HLp) (by rfl) (by exact RFp)) ?_ | refine dw_gyes rfl rfl rfl rfl rfl (ao_loadsV (A := #[.int _ _, .int _ _]) Tryd.isAgg37 Tryd.sizeOf37 hh0 rfl hx rfl (by decide)) ?_ | refine dw_gyes rfl rfl rfl rfl rfl (ao_loadsV (A := #[.int _ _, .int _ _]) Tryd.isAgg37 Tryd.sizeOf37 hh0 rfl hy rfl (by decide)) ?_
          refine dw_gyes rfl rfl rfl rfl rfl (ao_calld (l01Has_c (l := l.take i) (x := x) (b := bc) (Sl.part (i := 0) spot_len (by exact HLp) rfl rfl (by omega) rfl (by simp; omega)) (by simp; omega) hbc) Tryd.call44 rfl rfl) ?_
          refine dw_opd rfl rfl rfl (ao_pickF rfl (v := .bool _) rfl) ?_
          refine dw_end ?_
          refine al_nilT ?_
          refine aw_cond rfl (fun h4_ => ?_) (fun h4_ => ?_)
          · try simp only [nrm] at h4_
            refine aw_seq ?_
            refine aw_region ?_
            refine al_opd rfl rfl rfl (ao_as (v := .bool _) rfl) ?_
            refine al_nilT ?_
            refine aw_ret ?_
            refine blockA_r ?_
            refine thenA_r ?_
            refine thenA_r ?_
            refine blockA_r ?_
            refine thenA_r ?_
            refine ends1 rfl (rv_tmp (v := .bool _) rfl) ?_
            exact ⟨bf hb (fun q => by obtain ⟨j, hj, e⟩ := hbc.mp h4_; exact take_hit e fun hj hy => (q.1 i (by omega) x hx).2 j x hj hy rfl), by exact SMp⟩
          · try simp only [nrm] at h4_
            have hdist : ∀ (j : Nat) y, j < i → l[j]? = some y → y ≠ x := fun j y hj hy e => (Bool.eq_false_iff.mp (by simpa using h4_)) (hbc.mpr ⟨j, by simp; omega, by show (l.take i)[j]? = some x; rw [List.getElem?_take, if_pos hj, hy, e]⟩)
            refine aw_skipB ?_
            refine thenA_n ?_
            refine aw_region ?_
            refine al_opd rfl rfl rfl (ao_mv (v := .int _ _) rfl) ?_
            first | refine al_opd rfl rfl rfl ((ao_add rfl rfl).val (nw_i64 BDp BDp)) ?_ | refine al_opd rfl rfl rfl (ao_add rfl rfl) ?_
            refine al_opd rfl rfl rfl (ao_as (v := .int _ _) rfl) ?_
            refine al_nilT ?_
            refine ⟨_, ?_, _, rfl, i + 1, by omega, rfl, rfl, rfl, by rfl, fun j hj => ?_⟩
            · omega
            · rcases Nat.lt_or_ge j i with h9 | h9
              · exact hq j h9
              · obtain rfl : j = i := by omega
                intro x' hx'; rw [hx] at hx'; cases hx'
                refine ⟨fun j' y' e hy' => ?_, hdist⟩
                first | (exfalso; omega) | (rw [show j' = j - 1 by omega, hy] at hy'; cases hy'; exact (sideOf_ok _ _).mp (by omega))
      · try simp only [nrm] at h2_
        refine dw_gno rfl rfl rfl rfl rfl rfl ?_
        refine dw_gno rfl rfl rfl rfl rfl rfl ?_
        refine dw_gno rfl rfl rfl rfl rfl rfl ?_
        refine dw_gno rfl rfl rfl rfl rfl rfl ?_
        refine dw_gno rfl rfl rfl rfl rfl rfl ?_
        refine dw_gno rfl rfl rfl rfl rfl rfl ?_
        refine dw_gno rfl rfl rfl rfl rfl rfl ?_
        refine dw_gno rfl rfl rfl rfl rfl rfl ?_
        refine dw_gno rfl rfl rfl rfl rfl rfl ?_
        refine dw_gno rfl rfl rfl rfl rfl rfl ?_
        refine dw_gno rfl rfl rfl rfl rfl rfl ?_
        refine dw_opd rfl rfl rfl (ao_pickF rfl (v := .bool _) rfl) ?_
        refine dw_opd rfl rfl rfl (ao_mv (v := .bool _) rfl) ?_
        refine dw_gyes rfl rfl rfl rfl rfl (ao_mv (v := .slice _ _ _) rfl) ?_
        refine dw_gyes rfl rfl rfl rfl rfl (ao_mv (v := .int _ _) rfl) ?_
        refine dw_gyes rfl rfl rfl rfl rfl (ao_sliceHi Tryd.underlying26 Tryd.sizeOf37 (by rfl) (by rfl) (by first | rfl | omega) (by exact HLp) (by rfl) (by exact IXp)) ?_
        refine dw_gyes rfl rfl rfl rfl rfl (ao_mv (v := .slice _ _ _) rfl) ?_
        refine dw_gyes rfl rfl rfl rfl rfl (ao_mv (v := .int _ _) rfl) ?_
        first | refine dw_gyes rfl rfl rfl rfl rfl (ao_indexAddrS Tryd.underlying26 Tryd.sizeOf37 rfl rfl (by exact IXp) (by exact IXp)) ?_ | refine dw_gyes rfl rfl rfl rfl rfl (ao_indexV Tryd.underlying26 Tryd.sizeOf37 rfl rfl hh0 (by exact IXp) (by exact IXp)) ?_
        first | refine dw_gyes rfl rfl rfl rfl rfl (ao_loada Tryd.isAgg37 Tryd.sizeOf37 rfl (by exact HLp) (by rfl) (by exact RFp)) ?_ | refine dw_gyes rfl rfl rfl rfl rfl (ao_loadsV (A := #[.int _ _, .int _ _]) Tryd.isAgg37 Tryd.sizeOf37 hh0 rfl hx rfl (by decide)) ?_ | refine dw_gyes rfl rfl rfl rfl rfl (ao_loadsV (A := #[.int _ _, .int _ _]) Tryd.isAgg37 Tryd.sizeOf37 hh0 rfl hy rfl (by decide)) ?_
        refine dw_gyes rfl rfl rfl rfl rfl (ao_calld (l01Has_c (l := l.take i) (x := x) (b := bc) (Sl.part (i := 0) spot_len (by exact HLp) rfl rfl (by omega) rfl (by simp; omega)) (by simp; omega) hbc) Tryd.call44 rfl rfl) ?_
        refine dw_opd rfl rfl rfl (ao_pickF rfl (v := .bool _) rfl) ?_
        refine dw_end ?_
        refine al_nilT ?_
        refine aw_cond rfl (fun h5_ => ?_) (fun h5_ => ?_)
        · try simp only [nrm] at h5_
          refine aw_seq ?_
          refine aw_region ?_
          refine al_opd rfl rfl rfl (ao_as (v := .bool _) rfl) ?_
          refine al_nilT ?_
          refine aw_ret ?_
          refine blockA_r ?_
          refine thenA_r ?_
          refine thenA_r ?_
          refine blockA_r ?_
          refine thenA_r ?_
          refine ends1 rfl (rv_tmp (v := .bool _) rfl) ?_
          exact ⟨bf hb (fun q => by obtain ⟨j, hj, e⟩ := hbc.mp h5_; exact take_hit e fun hj hy => (q.1 i (by omega) x hx).2 j x hj hy rfl), by exact SMp⟩
        · try simp only [nrm] at h5_
          have hdist : ∀ (j : Nat) y, j < i → l[j]? = some y → y ≠ x := fun j y hj hy e => (Bool.eq_false_iff.mp (by simpa using h5_)) (hbc.mpr ⟨j, by simp; omega, by show (l.take i)[j]? = some x; rw [List.getElem?_take, if_pos hj, hy, e]⟩)
          refine aw_skipB ?_
          refine thenA_n ?_
          refine aw_region ?_
          refine al_opd rfl rfl rfl (ao_mv (v := .int _ _) rfl) ?_
          first | refine al_opd rfl rfl rfl ((ao_add rfl rfl).val (nw_i64 BDp BDp)) ?_ | refine al_opd rfl rfl rfl (ao_add rfl rfl) ?_
          refine al_opd rfl rfl rfl (ao_as (v := .int _ _) rfl) ?_
          refine al_nilT ?_
          refine ⟨_, ?_, _, rfl, i + 1, by omega, rfl, rfl, rfl, by rfl, fun j hj => ?_⟩
          · omega
          · rcases Nat.lt_or_ge j i with h9 | h9
            · exact hq j h9
            · obtain rfl : j = i := by omega
              intro x' hx'; rw [hx] at hx'; cases hx'
              refine ⟨fun j' y' e hy' => ?_, hdist⟩
              first | (exfalso; omega) | (rw [show j' = j - 1 by omega, hy] at hy'; cases hy'; exact (sideOf_ok _ _).mp (by omega))
    · try simp only [nrm] at h1_
      refine aw_exit ?_
      refine thenA_x ?_
      refine thenA_x ?_
      refine blockA_hit ?_
      refine thenA_n ?_
      refine aw_seq ?_
      refine aw_region ?_
      refine al_opd rfl rfl rfl (ao_mv (v := .slice _ _ _) rfl) ?_
      first | refine al_opd rfl rfl rfl (ao_lenS Tryd.underlying26 (by rfl)) ?_ | refine al_opd rfl rfl rfl (ao_lenN Tryd.underlying26 (by rfl)) ?_ | refine al_opd rfl rfl rfl (ao_lenV Tryd.underlying26 rfl hh0) ?_
      refine al_opd rfl rfl rfl (ao_calld (l00In_c) Tryd.call32 rfl rfl) ?_
      refine al_opd rfl rfl rfl (ao_as (v := .bool _) rfl) ?_
      refine al_nilT ?_
      refine aw_ret ?_
      refine ends1 rfl (rv_tmp (v := .bool _) rfl) ?_
      exact ⟨beqv hb (by simp only [Bool.and_eq_true, decide_eq_true_eq]; exact ⟨fun e => ⟨fun j hj => hq j (by omega), by omega, by omega⟩, fun q => ⟨by have := q.2.1; omega, by have := q.2.2; omega⟩⟩), by exact SMp⟩

-- laws.eqFile
theorem eqFile_c {v u : Value} {l m : List Spot} {H : AHeap} (ha : Sl H spot 2 v l) (hb : Sl H spot 2 u m) (hl : l.length ≤ 4194304) : ACd Tryd.prog 9 [v, u] H (.bool (decide (l = m))) (H) := by
  refine ac_gc0 (fun β => VR.plainT β (by first | rfl | simp [plainT, plainV, plain1])) (ac_body Tryd.func9 rfl Tryd.ntmps9 rfl ?_)
  refine aw_seq ?_
  refine aw_region ?_
  refine al_opd rfl rfl rfl (ao_as (v := .bool _) rfl) ?_
  refine al_nilT ?_
  refine aw_seq ?_
  refine aw_seq ?_
  refine aw_region ?_
  first | refine al_opd rfl rfl rfl (ao_mv (v := .slice _ _ _) rfl) ?_ | refine al_opd rfl rfl rfl (ao_mv (v := v) rfl) ?_ | refine al_opd rfl rfl rfl (ao_mv (v := u) rfl) ?_
  first | refine al_opd rfl rfl rfl (ao_lenS Tryd.underlying26 (by rfl)) ?_ | refine al_opd rfl rfl rfl (ao_lenN Tryd.underlying26 (by rfl)) ?_ | refine al_opd rfl rfl rfl (ao_lenV Tryd.underlying26 rfl ha) ?_ | refine al_opd rfl rfl rfl (ao_lenV Tryd.underlying26 rfl hb) ?_
  first | refine al_opd rfl rfl rfl (ao_mv (v := .slice _ _ _) rfl) ?_ | refine al_opd rfl rfl rfl (ao_mv (v := v) rfl) ?_ | refine al_opd rfl rfl rfl (ao_mv (v := u) rfl) ?_
  first | refine al_opd rfl rfl rfl (ao_lenS Tryd.underlying26 (by rfl)) ?_ | refine al_opd rfl rfl rfl (ao_lenN Tryd.underlying26 (by rfl)) ?_ | refine al_opd rfl rfl rfl (ao_lenV Tryd.underlying26 rfl ha) ?_ | refine al_opd rfl rfl rfl (ao_lenV Tryd.underlying26 rfl hb) ?_
  refine al_opd rfl rfl rfl (ao_neq rfl rfl) ?_
  refine al_nilT ?_
  refine aw_cond rfl (fun h1_ => ?_) (fun h1_ => ?_)
  · try simp only [nrm] at h1_
    refine aw_seq ?_
    refine aw_region ?_
    refine al_opd rfl rfl rfl (ao_as (v := .bool _) rfl) ?_
    refine al_nilT ?_
    refine aw_ret ?_
    refine thenA_r ?_
    refine ends1 rfl (rv_tmp (v := .bool _) rfl) ?_
    exact ⟨by rw [decide_eq_false (fun e => h1_ (by rw [e]))], by exact SMp⟩
  · try simp only [nrm] at h1_
    refine aw_skipT ?_
    refine aw_seq ?_
    refine aw_seq ?_
    refine aw_region ?_
    refine al_opd rfl rfl rfl (ao_as (v := .int _ _) rfl) ?_
    refine al_nilT ?_
    refine aw_block ?_
    refine aw_loop (fun (gk : Nat) (fr : AFr) (G : AHeap) => ∃ get : Nat → Value, fr = ⟨27, get⟩ ∧ (∃ i : Nat, i ≤ l.length ∧ gk = l.length - i ∧ G = H ∧ get 0 = v ∧ get 1 = u ∧ get 5 = .int .i64 i ∧ l.take i = m.take i)) (l.length) ⟨_, rfl, ?_⟩ ?_
    · exact ⟨0, Nat.zero_le _, rfl, rfl, rfl, rfl, rfl, by simp⟩
    · rintro gk fr G ⟨get, rfl, i, hi, rfl, rfl, g0, g1, g5, hq⟩
      have hlen : l.length = m.length := by omega
      refine aw_slot (d := 0) (v := v) (by first | assumption | rfl) ?_
      refine aw_slot (d := 1) (v := u) (by first | assumption | rfl) ?_
      refine aw_slot (d := 5) (v := .int .i64 i) (by first | assumption | rfl) ?_
      refine aw_seq ?_
      refine aw_seq ?_
      refine aw_region ?_
      refine al_opd rfl rfl rfl (ao_mv (v := .int _ _) rfl) ?_
      first | refine al_opd rfl rfl rfl (ao_mv (v := .slice _ _ _) rfl) ?_ | refine al_opd rfl rfl rfl (ao_mv (v := v) rfl) ?_ | refine al_opd rfl rfl rfl (ao_mv (v := u) rfl) ?_
      first | refine al_opd rfl rfl rfl (ao_lenS Tryd.underlying26 (by rfl)) ?_ | refine al_opd rfl rfl rfl (ao_lenN Tryd.underlying26 (by rfl)) ?_ | refine al_opd rfl rfl rfl (ao_lenV Tryd.underlying26 rfl ha) ?_ | refine al_opd rfl rfl rfl (ao_lenV Tryd.underlying26 rfl hb) ?_
      refine al_opd rfl rfl rfl (ao_lss rfl rfl) ?_
      refine al_nilT ?_
      refine aw_cond rfl (fun h2_ => ?_) (fun h2_ => ?_)
      · try simp only [nrm] at h2_
        obtain ⟨x, hx⟩ := get_lt (show i < l.length by omega)
        obtain ⟨y, hy⟩ := get_lt (show i < m.length by omega)
        refine aw_skipT ?_
        refine aw_seq ?_
        refine aw_block ?_
        refine aw_seq ?_
        refine aw_draw (m := 10) mo (by kernel_rfl) rfl (fun _ _ _ h => h) ?_
        first | refine dw_opd rfl rfl rfl (ao_mv (v := .slice _ _ _) rfl) ?_ | refine dw_opd rfl rfl rfl (ao_mv (v := v) rfl) ?_ | refine dw_opd rfl rfl rfl (ao_mv (v := u) rfl) ?_
        refine dw_opd rfl rfl rfl (ao_mv (v := .int _ _) rfl) ?_
        first | refine dw_opd rfl rfl rfl (ao_indexAddrS Tryd.underlying26 Tryd.sizeOf37 rfl rfl (by exact IXp) (by exact IXp)) ?_ | refine dw_opd rfl rfl rfl (ao_indexV Tryd.underlying26 Tryd.sizeOf37 rfl rfl ha (by exact IXp) (by exact IXp)) ?_ | refine dw_opd rfl rfl rfl (ao_indexV Tryd.underlying26 Tryd.sizeOf37 rfl rfl hb (by exact IXp) (by exact IXp)) ?_
        first | refine dw_opd rfl rfl rfl (ao_loada Tryd.isAgg37 Tryd.sizeOf37 rfl (by exact HLp) (by rfl) (by exact RFp)) ?_ | refine dw_opd rfl rfl rfl (ao_loadsV (A := #[.int _ _, .int _ _]) Tryd.isAgg37 Tryd.sizeOf37 ha rfl (by assumption) rfl (by decide)) ?_ | refine dw_opd rfl rfl rfl (ao_loadsV (A := #[.int _ _, .int _ _]) Tryd.isAgg37 Tryd.sizeOf37 hb rfl (by assumption) rfl (by decide)) ?_
        first | refine dw_opd rfl rfl rfl (ao_mv (v := .slice _ _ _) rfl) ?_ | refine dw_opd rfl rfl rfl (ao_mv (v := v) rfl) ?_ | refine dw_opd rfl rfl rfl (ao_mv (v := u) rfl) ?_
        refine dw_opd rfl rfl rfl (ao_mv (v := .int _ _) rfl) ?_
        first | refine dw_opd rfl rfl rfl (ao_indexAddrS Tryd.underlying26 Tryd.sizeOf37 rfl rfl (by exact IXp) (by exact IXp)) ?_ | refine dw_opd rfl rfl rfl (ao_indexV Tryd.underlying26 Tryd.sizeOf37 rfl rfl ha (by exact IXp) (by exact IXp)) ?_ | refine dw_opd rfl rfl rfl (ao_indexV Tryd.underlying26 Tryd.sizeOf37 rfl rfl hb (by exact IXp) (by exact IXp)) ?_
        first | refine dw_opd rfl rfl rfl (ao_loada Tryd.isAgg37 Tryd.sizeOf37 rfl (by exact HLp) (by rfl) (by exact RFp)) ?_ | refine dw_opd rfl rfl rfl (ao_loadsV (A := #[.int _ _, .int _ _]) Tryd.isAgg37 Tryd.sizeOf37 ha rfl (by assumption) rfl (by decide)) ?_ | refine dw_opd rfl rfl rfl (ao_loadsV (A := #[.int _ _, .int _ _]) Tryd.isAgg37 Tryd.sizeOf37 hb rfl (by assumption) rfl (by decide)) ?_
        refine dw_opd rfl rfl rfl (ao_calld (eqSpot1_c (x := x) (y := y)) Tryd.call23 rfl rfl) ?_
        refine dw_opd rfl rfl rfl (ao_not rfl) ?_
        refine dw_end ?_
        refine al_nilT ?_
        refine aw_cond rfl (fun h3_ => ?_) (fun h3_ => ?_)
        · try simp only [nrm] at h3_
          refine aw_seq ?_
          refine aw_region ?_
          refine al_opd rfl rfl rfl (ao_as (v := .bool _) rfl) ?_
          refine al_nilT ?_
          refine aw_ret ?_
          refine blockA_r ?_
          refine thenA_r ?_
          refine thenA_r ?_
          refine blockA_r ?_
          refine thenA_r ?_
          refine ends1 rfl (rv_tmp (v := .bool _) rfl) ?_
          exact ⟨by rw [decide_eq_false (ne_at hx hy h3_)], by exact SMp⟩
        · try simp only [nrm] at h3_
          refine aw_skipB ?_
          refine thenA_n ?_
          refine aw_region ?_
          refine al_opd rfl rfl rfl (ao_mv (v := .int _ _) rfl) ?_
          first | refine al_opd rfl rfl rfl ((ao_add rfl rfl).val (nw_i64 BDp BDp)) ?_ | refine al_opd rfl rfl rfl (ao_add rfl rfl) ?_
          refine al_opd rfl rfl rfl (ao_as (v := .int _ _) rfl) ?_
          refine al_nilT ?_
          exact ⟨_, by omega, _, rfl, i + 1, by omega, rfl, rfl, rfl, rfl, by rfl, take_step hq hx (by rw [hy]; exact congrArg some h3_.symm)⟩
      · try simp only [nrm] at h2_
        refine aw_exit ?_
        refine thenA_x ?_
        refine thenA_x ?_
        refine blockA_hit ?_
        refine thenA_n ?_
        refine aw_seq ?_
        refine aw_region ?_
        refine al_opd rfl rfl rfl (ao_as (v := .bool _) rfl) ?_
        refine al_nilT ?_
        refine aw_ret ?_
        refine ends1 rfl (rv_tmp (v := .bool _) rfl) ?_
        exact ⟨by rw [decide_eq_true (take_all hq (by omega) hlen)], by exact SMp⟩

-- laws.markFile
theorem mark_file_c {l : List Spot} {pb c : Nat} {k : Int} {H : AHeap} (hp : H.blk pb = some (.cells (fl spot l) 2)) (hl : l.length ≤ 4194304) (hk : 0 ≤ k ∧ k ≤ 16777216) : ACd Tryd.prog 12 [.slice (some ⟨pb, 0, none⟩) l.length c, .int .i64 k] H (.int .i64 (k + 2 * l.length)) (H.set pb (.cells (fl spot (mkSpot k l.length)) 2)) := by
  refine ac_gc1 (fun β => .int _ _) (vrl_fl spot_plain _) ⟨_, hp⟩ (ac_body Tryd.func12 rfl Tryd.ntmps12 rfl ?_)
  refine aw_seq ?_
  refine aw_region ?_
  refine al_opd rfl rfl rfl (ao_as (v := .int _ _) rfl) ?_
  refine al_nilT ?_
  refine aw_seq ?_
  refine aw_seq ?_
  refine aw_region ?_
  refine al_opd rfl rfl rfl (ao_as (v := .int _ _) rfl) ?_
  refine al_nilT ?_
  refine aw_block ?_
  refine aw_loop (fun (gk : Nat) (fr : AFr) (G : AHeap) => ∃ get : Nat → Value, fr = ⟨29, get⟩ ∧ (∃ (i : Nat) (z : List Spot), i ≤ l.length ∧ gk = l.length - i ∧ z.length = l.length ∧ z.take i = (mkSpot k l.length).take i ∧ G = H.set pb (.cells (fl spot z) 2) ∧ get 0 = .slice (some ⟨pb, 0, none⟩) l.length c ∧ get 1 = .int .i64 (k + 2 * i) ∧ get 5 = .int .i64 i)) (l.length) ⟨_, rfl, ?_⟩ ?_
  · exact ⟨0, l, Nat.zero_le _, rfl, rfl, by simp, (set_self hp).symm, rfl, by (first | rfl | (refine congrArg (Value.int .i64) ?_; omega)), rfl⟩
  · rintro gk fr G ⟨get, rfl, i, z, hi, rfl, hz, hq, rfl, g0, g1, g5⟩
    refine aw_slot (d := 0) (v := .slice (some ⟨pb, 0, none⟩) l.length c) (by first | assumption | rfl) ?_
    refine aw_slot (d := 1) (v := .int .i64 (k + 2 * i)) (by first | assumption | rfl) ?_
    refine aw_slot (d := 5) (v := .int .i64 i) (by first | assumption | rfl) ?_
    refine aw_seq ?_
    refine aw_seq ?_
    refine aw_region ?_
    refine al_opd rfl rfl rfl (ao_mv (v := .int _ _) rfl) ?_
    refine al_opd rfl rfl rfl (ao_mv (v := .slice _ _ _) rfl) ?_
    first | refine al_opd rfl rfl rfl (ao_lenS Tryd.underlying26 (by rfl)) ?_ | refine al_opd rfl rfl rfl (ao_lenN Tryd.underlying26 (by rfl)) ?_
    refine al_opd rfl rfl rfl (ao_lss rfl rfl) ?_
    refine al_nilT ?_
    refine aw_cond rfl (fun h1_ => ?_) (fun h1_ => ?_)
    · try simp only [nrm] at h1_
      refine aw_skipT ?_
      refine aw_seq ?_
      refine aw_block ?_
      refine aw_seq ?_
      refine aw_region ?_
      refine al_opd rfl rfl rfl (ao_mv (v := .slice _ _ _) rfl) ?_
      refine al_opd rfl rfl rfl (ao_mv (v := .int _ _) rfl) ?_
      refine al_opd rfl rfl rfl (ao_mv (v := .int _ _) rfl) ?_
      first | refine al_opd rfl rfl rfl ((ao_conv ⟨_, Tryd.underlying3⟩ Tryd.underlying35 rfl).val (nw_i8 BDp BDp)) ?_ | refine al_opd rfl rfl rfl (ao_conv ⟨_, Tryd.underlying3⟩ Tryd.underlying35 rfl) ?_
      first | refine al_opd rfl rfl rfl (ao_indexAddrS Tryd.underlying26 Tryd.sizeOf37 rfl rfl (by exact IXp) (by exact IXp)) ?_
      refine al_opd rfl rfl rfl (ao_fieldAddr fo_37_0 rfl) ?_
      refine al_opd rfl rfl rfl ((ao_store1 (v := .int _ _) Tryd.sizeOf35 (by rfl) (by rfl) (by exact HLp) (by rfl) (by (first | (rw [fl_len spot_len]; simp; omega) | (simp only [List.length_set]; rw [fl_len spot_len]; simp; omega)))).to (SetR.eq (by exact SRp))) ?_
      refine al_nilT ?_
      refine aw_seq ?_
      refine aw_region ?_
      refine al_opd rfl rfl rfl (ao_mv (v := .int _ _) rfl) ?_
      first | refine al_opd rfl rfl rfl ((ao_add rfl rfl).val (nw_i64 BDp BDp)) ?_ | refine al_opd rfl rfl rfl (ao_add rfl rfl) ?_
      refine al_opd rfl rfl rfl (ao_as (v := .int _ _) rfl) ?_
      refine al_nilT ?_
      refine aw_seq ?_
      refine aw_region ?_
      refine al_opd rfl rfl rfl (ao_mv (v := .slice _ _ _) rfl) ?_
      refine al_opd rfl rfl rfl (ao_mv (v := .int _ _) rfl) ?_
      refine al_opd rfl rfl rfl (ao_mv (v := .int _ _) rfl) ?_
      first | refine al_opd rfl rfl rfl ((ao_conv ⟨_, Tryd.underlying3⟩ Tryd.underlying35 rfl).val (nw_i8 BDp BDp)) ?_ | refine al_opd rfl rfl rfl (ao_conv ⟨_, Tryd.underlying3⟩ Tryd.underlying35 rfl) ?_
      first | refine al_opd rfl rfl rfl (ao_indexAddrS Tryd.underlying26 Tryd.sizeOf37 rfl rfl (by exact IXp) (by exact IXp)) ?_
      refine al_opd rfl rfl rfl (ao_fieldAddr fo_37_1 rfl) ?_
      refine al_opd rfl rfl rfl ((ao_store1 (v := .int _ _) Tryd.sizeOf35 (by rfl) (by rfl) (by exact HLp) (by rfl) (by (first | (rw [fl_len spot_len]; simp; omega) | (simp only [List.length_set]; rw [fl_len spot_len]; simp; omega)))).to (SetR.eq (by exact SRp))) ?_
      refine al_nilT ?_
      refine aw_region ?_
      refine al_opd rfl rfl rfl (ao_mv (v := .int _ _) rfl) ?_
      first | refine al_opd rfl rfl rfl ((ao_add rfl rfl).val (nw_i64 BDp BDp)) ?_ | refine al_opd rfl rfl rfl (ao_add rfl rfl) ?_
      refine al_opd rfl rfl rfl (ao_as (v := .int _ _) rfl) ?_
      refine al_nilB ?_
      refine thenA_n ?_
      refine aw_region ?_
      refine al_opd rfl rfl rfl (ao_mv (v := .int _ _) rfl) ?_
      first | refine al_opd rfl rfl rfl ((ao_add rfl rfl).val (nw_i64 BDp BDp)) ?_ | refine al_opd rfl rfl rfl (ao_add rfl rfl) ?_
      refine al_opd rfl rfl rfl (ao_as (v := .int _ _) rfl) ?_
      refine al_nilT ?_
      exact ⟨_, by omega, _, rfl, i + 1, z.set i ⟨IntKind.i8.wrap (k + 2 * i), IntKind.i8.wrap (k + 2 * i + 1)⟩, by omega, rfl, by simp [hz], take_setz hq (mkSpot_at (by omega)) (by omega), congrArg (fun c => H.set pb (.cells c 2)) (spot_set2 (by omega)), rfl, by (first | rfl | (refine congrArg (Value.int .i64) ?_; omega)), by rfl⟩
    · try simp only [nrm] at h1_
      refine aw_exit ?_
      refine thenA_x ?_
      refine thenA_x ?_
      refine blockA_hit ?_
      refine thenA_n ?_
      refine aw_seq ?_
      refine aw_region ?_
      refine al_opd rfl rfl rfl (ao_mv (v := .int _ _) rfl) ?_
      refine al_opd rfl rfl rfl (ao_as (v := .int _ _) rfl) ?_
      refine al_nilT ?_
      refine aw_ret ?_
      refine ends1 rfl (rv_tmp (v := .int _ _) rfl) ?_
      obtain rfl : i = l.length := by omega
      rw [take_all hq (by omega) (by rw [hz, mkSpot_len])]
      exact ⟨rfl, Same.refl _ _⟩

-- laws.markFile
theorem mark0_file_c {k : Int} {H : AHeap} : ACd Tryd.prog 12 [.slice none 0 0, .int .i64 k] H (.int .i64 k) (H) := by
  refine ac_gc0 (fun β => VR.plainT β (by first | rfl | simp [plainT, plainV, plain1])) (ac_body Tryd.func12 rfl Tryd.ntmps12 rfl ?_)
  refine aw_seq ?_
  refine aw_region ?_
  refine al_opd rfl rfl rfl (ao_as (v := .int _ _) rfl) ?_
  refine al_nilT ?_
  refine aw_seq ?_
  refine aw_seq ?_
  refine aw_region ?_
  refine al_opd rfl rfl rfl (ao_as (v := .int _ _) rfl) ?_
  refine al_nilT ?_
  refine aw_block ?_
  refine aw_loop (fun (gk : Nat) (fr : AFr) (G : AHeap) => ∃ get : Nat → Value, fr = ⟨29, get⟩ ∧ (gk = 0 ∧ G = H ∧ get 0 = .slice none 0 0 ∧ get 1 = .int .i64 k ∧ get 5 = .int .i64 0)) (0) ⟨_, rfl, ?_⟩ ?_
  · exact ⟨rfl, rfl, rfl, rfl, rfl⟩
  · rintro gk fr G ⟨get, rfl, rfl, rfl, g0, g1, g5⟩
    refine aw_slot (d := 0) (v := .slice none 0 0) (by first | assumption | rfl) ?_
    refine aw_slot (d := 1) (v := .int .i64 k) (by first | assumption | rfl) ?_
    refine aw_slot (d := 5) (v := .int .i64 0) (by first | assumption | rfl) ?_
    refine aw_seq ?_
    refine aw_seq ?_
    refine aw_region ?_
    refine al_opd rfl rfl rfl (ao_mv (v := .int _ _) rfl) ?_
    refine al_opd rfl rfl rfl (ao_mv (v := .slice _ _ _) rfl) ?_
    first | refine al_opd rfl rfl rfl (ao_lenS Tryd.underlying26 (by rfl)) ?_ | refine al_opd rfl rfl rfl (ao_lenN Tryd.underlying26 (by rfl)) ?_
    refine al_opd rfl rfl rfl (ao_lss rfl rfl) ?_
    refine al_nilT ?_
    refine aw_cond rfl (fun h1_ => ?_) (fun h1_ => ?_)
    · try simp only [nrm] at h1_
      first | done | omega | (exfalso; revert h1_; simp; (first | done | omega))
    try simp only [nrm] at h1_
    refine aw_exit ?_
    refine thenA_x ?_
    refine thenA_x ?_
    refine blockA_hit ?_
    refine thenA_n ?_
    refine aw_seq ?_
    refine aw_region ?_
    refine al_opd rfl rfl rfl (ao_mv (v := .int _ _) rfl) ?_
    refine al_opd rfl rfl rfl (ao_as (v := .int _ _) rfl) ?_
    refine al_nilT ?_
    refine aw_ret ?_
    refine ends1 rfl (rv_tmp (v := .int _ _) rfl) ?_
    exact ⟨by first | rfl | (simp [*]; (first | done | fail)), by exact SMp⟩

-- laws.heldFile
theorem held_file_c {v : Value} {n : Nat} {k : Int} {H : AHeap} (ha : Sl H spot 2 v (mkSpot k n)) (hl : n ≤ 4194304) (hk : 0 ≤ k ∧ k ≤ 16777216) : ACd Tryd.prog 13 [v, .int .i64 k] H (.int .i64 (k + 2 * n)) (H) := by
  have hln : (mkSpot k n).length = n := mkSpot_len k n
  refine ac_gc0 (fun β => VR.plainT β (by first | rfl | simp [plainT, plainV, plain1])) (ac_body Tryd.func13 rfl Tryd.ntmps13 rfl ?_)
  refine aw_seq ?_
  refine aw_region ?_
  refine al_opd rfl rfl rfl (ao_as (v := .int _ _) rfl) ?_
  refine al_nilT ?_
  refine aw_seq ?_
  refine aw_seq ?_
  refine aw_region ?_
  refine al_opd rfl rfl rfl (ao_as (v := .int _ _) rfl) ?_
  refine al_nilT ?_
  refine aw_block ?_
  refine aw_loop (fun (gk : Nat) (fr : AFr) (G : AHeap) => ∃ get : Nat → Value, fr = ⟨33, get⟩ ∧ (∃ i : Nat, i ≤ n ∧ gk = n - i ∧ G = H ∧ get 0 = v ∧ get 1 = .int .i64 (k + 2 * i) ∧ get 5 = .int .i64 i)) (n) ⟨_, rfl, ?_⟩ ?_
  · exact ⟨0, Nat.zero_le _, rfl, rfl, rfl, by (first | rfl | (refine congrArg (Value.int .i64) ?_; omega)), rfl⟩
  · rintro gk fr G ⟨get, rfl, i, hi, rfl, rfl, g0, g1, g5⟩
    refine aw_slot (d := 0) (v := v) (by first | assumption | rfl) ?_
    refine aw_slot (d := 1) (v := .int .i64 (k + 2 * i)) (by first | assumption | rfl) ?_
    refine aw_slot (d := 5) (v := .int .i64 i) (by first | assumption | rfl) ?_
    refine aw_seq ?_
    refine aw_seq ?_
    refine aw_region ?_
    refine al_opd rfl rfl rfl (ao_mv (v := .int _ _) rfl) ?_
    first | refine al_opd rfl rfl rfl (ao_mv (v := .slice _ _ _) rfl) ?_ | refine al_opd rfl rfl rfl (ao_mv (v := v) rfl) ?_
    first | refine al_opd rfl rfl rfl (ao_lenS Tryd.underlying26 (by rfl)) ?_ | refine al_opd rfl rfl rfl (ao_lenN Tryd.underlying26 (by rfl)) ?_ | refine al_opd rfl rfl rfl (ao_lenV Tryd.underlying26 rfl ha) ?_
    refine al_opd rfl rfl rfl (ao_lss rfl rfl) ?_
    refine al_nilT ?_
    refine aw_cond rfl (fun h1_ => ?_) (fun h1_ => ?_)
    · try simp only [nrm] at h1_
      obtain ⟨x, hx⟩ := get_lt (show i < (mkSpot k n).length by omega)
      obtain rfl := mkSpot_get hx
      refine aw_skipT ?_
      refine aw_seq ?_
      refine aw_block ?_
      refine aw_seq ?_
      refine aw_seq ?_
      refine aw_region ?_
      first | refine al_opd rfl rfl rfl (ao_mv (v := .slice _ _ _) rfl) ?_ | refine al_opd rfl rfl rfl (ao_mv (v := v) rfl) ?_
      refine al_opd rfl rfl rfl (ao_mv (v := .int _ _) rfl) ?_
      first | refine al_opd rfl rfl rfl (ao_indexAddrS Tryd.underlying26 Tryd.sizeOf37 rfl rfl (by exact IXp) (by exact IXp)) ?_ | refine al_opd rfl rfl rfl (ao_indexV Tryd.underlying26 Tryd.sizeOf37 rfl rfl ha (by exact IXp) (by exact IXp)) ?_
      refine al_opd rfl rfl rfl (ao_fieldAddr fo_37_0 rfl) ?_
      first | refine al_opd rfl rfl rfl (ao_load (v := .int _ _) Tryd.isAgg35 (by rfl) (by exact HLp) (by rfl) (by exact RFp)) ?_ | refine al_opd rfl rfl rfl (ao_loadV (j := 0) (u := .int _ _) Tryd.isAgg35 ha rfl rfl (by assumption) rfl) ?_ | refine al_opd rfl rfl rfl (ao_loadV (j := 1) (u := .int _ _) Tryd.isAgg35 ha rfl rfl (by assumption) rfl) ?_ | refine al_opd rfl rfl rfl (ao_loadV (i := 0) (j := 0) (u := .int _ _) Tryd.isAgg35 ha rfl rfl (by assumption) rfl) ?_ | refine al_opd rfl rfl rfl (ao_loadV (i := 0) (j := 1) (u := .int _ _) Tryd.isAgg35 ha rfl rfl (by assumption) rfl) ?_
      refine al_opd rfl rfl rfl (ao_mv (v := .int _ _) rfl) ?_
      first | refine al_opd rfl rfl rfl ((ao_conv ⟨_, Tryd.underlying3⟩ Tryd.underlying35 rfl).val (nw_i8 BDp BDp)) ?_ | refine al_opd rfl rfl rfl (ao_conv ⟨_, Tryd.underlying3⟩ Tryd.underlying35 rfl) ?_
      refine al_opd rfl rfl rfl (ao_neq rfl rfl) ?_
      refine al_nilT ?_
      refine aw_cond rfl (fun h2_ => ?_) (fun h2_ => ?_)
      · try simp only [nrm] at h2_
        first | done | omega | (exfalso; revert h2_; simp; (first | done | omega))
      try simp only [nrm] at h2_
      refine aw_skipT ?_
      refine aw_seq ?_
      refine aw_region ?_
      refine al_opd rfl rfl rfl (ao_mv (v := .int _ _) rfl) ?_
      first | refine al_opd rfl rfl rfl ((ao_add rfl rfl).val (nw_i64 BDp BDp)) ?_ | refine al_opd rfl rfl rfl (ao_add rfl rfl) ?_
      refine al_opd rfl rfl rfl (ao_as (v := .int _ _) rfl) ?_
      refine al_nilT ?_
      refine aw_seq ?_
      refine aw_seq ?_
      refine aw_region ?_
      first | refine al_opd rfl rfl rfl (ao_mv (v := .slice _ _ _) rfl) ?_ | refine al_opd rfl rfl rfl (ao_mv (v := v) rfl) ?_
      refine al_opd rfl rfl rfl (ao_mv (v := .int _ _) rfl) ?_
      first | refine al_opd rfl rfl rfl (ao_indexAddrS Tryd.underlying26 Tryd.sizeOf37 rfl rfl (by exact IXp) (by exact IXp)) ?_ | refine al_opd rfl rfl rfl (ao_indexV Tryd.underlying26 Tryd.sizeOf37 rfl rfl ha (by exact IXp) (by exact IXp)) ?_
      refine al_opd rfl rfl rfl (ao_fieldAddr fo_37_1 rfl) ?_
      first | refine al_opd rfl rfl rfl (ao_load (v := .int _ _) Tryd.isAgg35 (by rfl) (by exact HLp) (by rfl) (by exact RFp)) ?_ | refine al_opd rfl rfl rfl (ao_loadV (j := 0) (u := .int _ _) Tryd.isAgg35 ha rfl rfl (by assumption) rfl) ?_ | refine al_opd rfl rfl rfl (ao_loadV (j := 1) (u := .int _ _) Tryd.isAgg35 ha rfl rfl (by assumption) rfl) ?_ | refine al_opd rfl rfl rfl (ao_loadV (i := 0) (j := 0) (u := .int _ _) Tryd.isAgg35 ha rfl rfl (by assumption) rfl) ?_ | refine al_opd rfl rfl rfl (ao_loadV (i := 0) (j := 1) (u := .int _ _) Tryd.isAgg35 ha rfl rfl (by assumption) rfl) ?_
      refine al_opd rfl rfl rfl (ao_mv (v := .int _ _) rfl) ?_
      first | refine al_opd rfl rfl rfl ((ao_conv ⟨_, Tryd.underlying3⟩ Tryd.underlying35 rfl).val (nw_i8 BDp BDp)) ?_ | refine al_opd rfl rfl rfl (ao_conv ⟨_, Tryd.underlying3⟩ Tryd.underlying35 rfl) ?_
      refine al_opd rfl rfl rfl (ao_neq rfl rfl) ?_
      refine al_nilT ?_
      refine aw_cond rfl (fun h3_ => ?_) (fun h3_ => ?_)
      · try simp only [nrm] at h3_
        first | done | omega | (exfalso; revert h3_; simp; (first | done | omega))
      try simp only [nrm] at h3_
      refine aw_skipT ?_
      refine aw_region ?_
      refine al_opd rfl rfl rfl (ao_mv (v := .int _ _) rfl) ?_
      first | refine al_opd rfl rfl rfl ((ao_add rfl rfl).val (nw_i64 BDp BDp)) ?_ | refine al_opd rfl rfl rfl (ao_add rfl rfl) ?_
      refine al_opd rfl rfl rfl (ao_as (v := .int _ _) rfl) ?_
      refine al_nilB ?_
      refine thenA_n ?_
      refine aw_region ?_
      refine al_opd rfl rfl rfl (ao_mv (v := .int _ _) rfl) ?_
      first | refine al_opd rfl rfl rfl ((ao_add rfl rfl).val (nw_i64 BDp BDp)) ?_ | refine al_opd rfl rfl rfl (ao_add rfl rfl) ?_
      refine al_opd rfl rfl rfl (ao_as (v := .int _ _) rfl) ?_
      refine al_nilT ?_
      exact ⟨_, by omega, _, rfl, i + 1, by omega, rfl, rfl, rfl, by (first | rfl | (refine congrArg (Value.int .i64) ?_; omega)), by rfl⟩
    · try simp only [nrm] at h1_
      refine aw_exit ?_
      refine thenA_x ?_
      refine thenA_x ?_
      refine blockA_hit ?_
      refine thenA_n ?_
      refine aw_seq ?_
      refine aw_region ?_
      refine al_opd rfl rfl rfl (ao_mv (v := .int _ _) rfl) ?_
      refine al_opd rfl rfl rfl (ao_as (v := .int _ _) rfl) ?_
      refine al_nilT ?_
      refine aw_ret ?_
      refine ends1 rfl (rv_tmp (v := .int _ _) rfl) ?_
      obtain rfl : i = n := by omega
      exact ⟨rfl, by exact SMp⟩

end Go.Proofs.YtlcfmbaeaieomaaDoor
