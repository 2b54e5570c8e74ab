/- Contracts of the program's functions over abstract heaps. -/
import Derived.Test.YtmmmjdbknepjgaaDoorVr
namespace Go.Proofs.YtmmmjdbknepjgaaDoor
open Go Go.AW Go.Proofs
set_option linter.unusedVariables false
set_option linter.unusedSimpArgs false
set_option maxRecDepth 100000
set_option maxHeartbeats 2000000

-- slices.IndexFunc[[]impl.Spot,impl.Spot]
theorem indexSp_c {fnum : Nat} {fs cs : Array Value} {l : List Spot} {w : Value} {p : Spot → Prop} {r : Int} {H : AHeap} (hc : ∀ (args : Array Value) (w : World), (callFunc fnum args).run Tryd.prog w = .ok (.enter fnum args) w) (hcall : ∀ (i : Nat) s, l[i]? = some s → ∃ b, (b = true ↔ p s) ∧ ACd Tryd.prog fnum (fs.toList ++ [.agg #[.int .i8 s.x, .int .i8 s.y]] ++ cs.toList) H (.bool b) H) (hh : Sl H spot 2 w l) (hn : l.length ≤ 4194304) (hr : firstAt (fun j => ∃ s, l[j]? = some s ∧ p s) l.length r) : ACd Tryd.prog 80 [w, .func (.func fnum) fs cs] H (.int .i64 r) (H) := by
  refine ac_gc0 (fun β => VR.plainT β (by first | rfl | simp [plainT, plainV, plain1])) (ac_body Tryd.func80 rfl Tryd.ntmps80 rfl ?_)
  refine aw_seq ?_
  refine aw_region ?_
  refine al_opd rfl rfl rfl (ao_as (v := .int _ _) rfl) ?_
  refine al_nilT ?_
  refine aw_seq ?_
  refine aw_seq ?_
  refine aw_region ?_
  first | refine al_opd rfl rfl rfl (ao_mv (v := .slice _ _ _) rfl) ?_ | refine al_opd rfl rfl rfl (ao_mv (v := w) rfl) ?_ | refine al_opd rfl rfl rfl (ao_mv (v := .func (.func fnum) fs cs) rfl) ?_
  first | refine al_opd rfl rfl rfl (ao_lenS Tryd.underlying37 (by rfl)) ?_ | refine al_opd rfl rfl rfl (ao_lenN Tryd.underlying37 (by rfl)) ?_ | refine al_opd rfl rfl rfl (ao_lenV Tryd.underlying37 rfl hh) ?_
  refine al_opd rfl rfl rfl (ao_mv (v := .int _ _) rfl) ?_
  refine al_nilT ?_
  refine aw_block ?_
  refine aw_loop (fun (gk : Nat) (fr : AFr) (G : AHeap) => ∃ get : Nat → Value, fr = ⟨19, get⟩ ∧ (∃ i : Nat, i ≤ l.length ∧ gk = l.length - i ∧ H = G ∧ get 0 = w ∧ get 1 = .func (.func fnum) fs cs ∧ get 7 = .int .i64 l.length ∧ get 8 = .int .i64 i ∧ ∀ j, j < i → ¬ (fun j => ∃ s, l[j]? = some s ∧ p s) j)) (l.length) ⟨_, rfl, ?_⟩ ?_
  · exact ⟨0, Nat.zero_le _, rfl, rfl, rfl, rfl, rfl, rfl, fun j h => by omega⟩
  · rintro gk fr G ⟨get, rfl, i, hi, rfl, rfl, g0, g1, g7, g8, hm⟩
    refine aw_slot (d := 0) (v := w) (by first | assumption | rfl) ?_
    refine aw_slot (d := 1) (v := .func (.func fnum) fs cs) (by first | assumption | rfl) ?_
    refine aw_slot (d := 7) (v := .int .i64 l.length) (by first | assumption | rfl) ?_
    refine aw_slot (d := 8) (v := .int .i64 i) (by first | assumption | rfl) ?_
    refine aw_seq ?_
    refine aw_region ?_
    refine al_opd rfl rfl rfl (ao_lss rfl rfl) ?_
    refine al_nilT ?_
    refine aw_seq ?_
    refine aw_cond rfl (fun h1_ => ?_) (fun h1_ => ?_)
    · try simp only [nrm] at h1_
      obtain ⟨y, hy⟩ := get_lt (show i < l.length by omega)
      obtain ⟨b, hb, hcl⟩ := hcall i y hy
      refine aw_skipT ?_
      refine aw_seq ?_
      refine aw_block ?_
      refine aw_seq ?_
      refine aw_region ?_
      refine al_opd rfl rfl rfl (ao_mv (v := .int _ _) rfl) ?_
      refine al_opd rfl rfl rfl (ao_as (v := .int _ _) rfl) ?_
      refine al_nilT ?_
      refine aw_seq ?_
      refine aw_region ?_
      first | refine al_opd rfl rfl rfl (ao_mv (v := .func _ _ _) rfl) ?_ | refine al_opd rfl rfl rfl (ao_mv (v := w) rfl) ?_ | refine al_opd rfl rfl rfl (ao_mv (v := .func (.func fnum) fs cs) rfl) ?_
      first | refine al_opd rfl rfl rfl (ao_mv (v := .slice _ _ _) rfl) ?_ | refine al_opd rfl rfl rfl (ao_mv (v := w) rfl) ?_ | refine al_opd rfl rfl rfl (ao_mv (v := .func (.func fnum) fs cs) rfl) ?_
      refine al_opd rfl rfl rfl (ao_mv (v := .int _ _) rfl) ?_
      first | refine al_opd rfl rfl rfl (ao_indexAddrS Tryd.underlying37 Tryd.sizeOf48 rfl rfl (by exact IXp) (by exact IXp)) ?_ | refine al_opd rfl rfl rfl (ao_indexV Tryd.underlying37 Tryd.sizeOf48 rfl rfl hh (by exact IXp) (by exact IXp)) ?_
      first | refine al_opd rfl rfl rfl (ao_loada Tryd.isAgg48 Tryd.sizeOf48 rfl (by exact HLp) (by rfl) (by exact RFp)) ?_ | refine al_opd rfl rfl rfl (ao_loadsV (A := #[.int _ _, .int _ _]) Tryd.isAgg48 Tryd.sizeOf48 hh rfl hy rfl (by decide)) ?_
      refine al_opd rfl rfl rfl (ao_callv hc (by rfl) (by rfl) hcl) ?_
      refine al_nilT ?_
      refine aw_cond rfl (fun h2_ => ?_) (fun h2_ => ?_)
      · try simp only [nrm] at h2_
        refine aw_seq ?_
        refine aw_region ?_
        refine al_opd rfl rfl rfl (ao_mv (v := .int _ _) rfl) ?_
        refine al_opd rfl rfl rfl (ao_as (v := .int _ _) rfl) ?_
        refine al_nilT ?_
        refine aw_ret ?_
        refine blockA_r ?_
        refine thenA_r ?_
        refine thenA_r ?_
        refine blockA_r ?_
        refine thenA_r ?_
        refine ends1 rfl (rv_tmp (v := .int _ _) rfl) ?_
        exact ⟨congrArg (Value.int .i64) (firstAt_hit hr (by omega) ⟨y, hy, hb.mp (by first | assumption | simp_all)⟩ hm), by exact SMp⟩
      · try simp only [nrm] at h2_
        refine aw_skipB ?_
        refine thenA_n ?_
        refine aw_region ?_
        first | refine al_opd rfl rfl rfl ((ao_add rfl rfl).val (nw_i64 BDp BDp)) ?_ | refine al_opd rfl rfl rfl (ao_add rfl rfl) ?_
        refine al_opd rfl rfl rfl (ao_mv (v := .int _ _) rfl) ?_
        refine al_nilT ?_
        refine ⟨_, ?_, _, rfl, i + 1, by omega, rfl, rfl, rfl, rfl, rfl, by rfl, fun j hj => ?_⟩
        · omega
        · rcases Nat.lt_or_ge j i with h9 | h9
          · exact hm j h9
          · obtain rfl : j = i := by omega
            rintro ⟨y', hy', e⟩; rw [hy] at hy'; cases hy'; have := hb.mpr e; simp_all
    · try simp only [nrm] at h1_
      refine aw_exit ?_
      refine thenA_x ?_
      refine thenA_x ?_
      refine blockA_hit ?_
      refine thenA_n ?_
      refine aw_seq ?_
      refine aw_region ?_
      refine al_opd rfl rfl rfl (ao_as (v := .int _ _) rfl) ?_
      refine al_nilT ?_
      refine aw_ret ?_
      refine ends1 rfl (rv_tmp (v := .int _ _) rfl) ?_
      obtain rfl : i = l.length := by omega
      exact ⟨congrArg (Value.int .i64) (firstAt_none hr hm), by exact SMp⟩

-- slices.ContainsFunc[[]impl.Spot,impl.Spot]
theorem containsSp_c {fnum : Nat} {fs cs : Array Value} {l : List Spot} {w : Value} {p : Spot → Prop} {b : Bool} {H : AHeap} (hc : ∀ (args : Array Value) (w : World), (callFunc fnum args).run Tryd.prog w = .ok (.enter fnum args) w) (hcall : ∀ (i : Nat) s, l[i]? = some s → ∃ b, (b = true ↔ p s) ∧ ACd Tryd.prog fnum (fs.toList ++ [.agg #[.int .i8 s.x, .int .i8 s.y]] ++ cs.toList) H (.bool b) H) (hh : Sl H spot 2 w l) (hn : l.length ≤ 4194304) (hb : b = true ↔ ∃ j, j < l.length ∧ (fun j => ∃ s, l[j]? = some s ∧ p s) j) : ACd Tryd.prog 70 [w, .func (.func fnum) fs cs] H (.bool b) (H) := by
  obtain ⟨r, hr⟩ := exists_first (fun j => ∃ s, l[j]? = some s ∧ p s) l.length
  refine ac_gc0 (fun β => VR.plainT β (by first | rfl | simp [plainT, plainV, plain1])) (ac_body Tryd.func70 rfl Tryd.ntmps70 rfl ?_)
  refine aw_seq ?_
  refine aw_region ?_
  refine al_opd rfl rfl rfl (ao_as (v := .bool _) rfl) ?_
  refine al_nilT ?_
  refine aw_seq ?_
  refine aw_region ?_
  first | refine al_opd rfl rfl rfl (ao_mv (v := .slice _ _ _) rfl) ?_ | refine al_opd rfl rfl rfl (ao_mv (v := w) rfl) ?_ | refine al_opd rfl rfl rfl (ao_mv (v := .func (.func fnum) fs cs) rfl) ?_
  first | refine al_opd rfl rfl rfl (ao_mv (v := .func _ _ _) rfl) ?_ | refine al_opd rfl rfl rfl (ao_mv (v := w) rfl) ?_ | refine al_opd rfl rfl rfl (ao_mv (v := .func (.func fnum) fs cs) rfl) ?_
  refine al_opd rfl rfl rfl (ao_calld (indexSp_c (l := l) (w := w) (p := p) (r := r) hc hcall hh hn hr) Tryd.call80 rfl rfl) ?_
  refine al_opd rfl rfl rfl (ao_geq rfl rfl) ?_
  refine al_opd rfl rfl rfl (ao_as (v := .bool _) rfl) ?_
  refine al_nilT ?_
  refine aw_ret ?_
  refine ends1 rfl (rv_tmp (v := .bool _) rfl) ?_
  exact ⟨bdec hb (firstAt_ge hr).symm, by exact SMp⟩

-- impl.cellCode$1
theorem cellCode1_c {r : Room} {s : Spot} {b : Bool} {qb : Nat} {H : AHeap} (hq : H.blk qb = some (.cells (roomC r) 1)) (hw : wfRoom r) (hs : wfSpot s) (hb : b = true ↔ ¬ isCell r s) : ACd Tryd.prog 71 [.agg #[.int .i8 s.x, .int .i8 s.y], .pointer (some ⟨qb, 0, none⟩)] H (.bool b) (H) := by
  obtain ⟨c, hc⟩ := exists_bool (isCell r s)
  refine ac_gc0 (fun β => VR.plainT β (by first | rfl | simp [plainT, plainV, plain1])) (ac_body Tryd.func71 rfl Tryd.ntmps71 rfl ?_)
  refine aw_seq ?_
  refine aw_region ?_
  refine al_opd rfl rfl rfl (ao_boxa (by rfl)) ?_
  refine al_opd rfl rfl rfl (ao_as (v := .bool _) rfl) ?_
  refine al_nilT ?_
  refine aw_seq ?_
  refine aw_region ?_
  refine al_opd rfl rfl rfl (ao_loada Tryd.isAgg28 Tryd.sizeOf28 rfl (by exact HLp) (by rfl) (by exact RFp)) ?_
  refine al_opd rfl rfl rfl (ao_loada Tryd.isAgg48 Tryd.sizeOf48 rfl (by exact HLp) (by rfl) (by exact RFp)) ?_
  refine al_opd rfl rfl rfl (ao_calld (isCell_c (r := r) (s := s) (b := c) hw hs hc) Tryd.call65 rfl rfl) ?_
  refine al_opd rfl rfl rfl (ao_not rfl) ?_
  refine al_opd rfl rfl rfl (ao_as (v := .bool _) rfl) ?_
  refine al_nilT ?_
  refine aw_ret ?_
  refine ends1 rfl (rv_tmp (v := .bool _) rfl) ?_
  exact ⟨beqv hb (by rw [← hc]; simp), by exact SMp⟩

-- impl.stateCode$1
theorem stateCode1_c {r : Room} {s : Spot} {b : Bool} {qb : Nat} {H : AHeap} (hq : H.blk qb = some (.cells (roomC r) 1)) (hw : wfRoom r) (hs : wfSpot s) (hb : b = true ↔ ¬ isFree r s) : ACd Tryd.prog 72 [.agg #[.int .i8 s.x, .int .i8 s.y], .pointer (some ⟨qb, 0, none⟩)] H (.bool b) (H) := by
  obtain ⟨c, hc⟩ := exists_bool (isFree r s)
  refine ac_gc0 (fun β => VR.plainT β (by first | rfl | simp [plainT, plainV, plain1])) (ac_body Tryd.func72 rfl Tryd.ntmps72 rfl ?_)
  refine aw_seq ?_
  refine aw_region ?_
  refine al_opd rfl rfl rfl (ao_boxa (by rfl)) ?_
  refine al_opd rfl rfl rfl (ao_as (v := .bool _) rfl) ?_
  refine al_nilT ?_
  refine aw_seq ?_
  refine aw_region ?_
  refine al_opd rfl rfl rfl (ao_loada Tryd.isAgg28 Tryd.sizeOf28 rfl (by exact HLp) (by rfl) (by exact RFp)) ?_
  refine al_opd rfl rfl rfl (ao_loada Tryd.isAgg48 Tryd.sizeOf48 rfl (by exact HLp) (by rfl) (by exact RFp)) ?_
  refine al_opd rfl rfl rfl (ao_calld (isFree_c (r := r) (s := s) (b := c) hw hs hc) Tryd.call41 rfl rfl) ?_
  refine al_opd rfl rfl rfl (ao_not rfl) ?_
  refine al_opd rfl rfl rfl (ao_as (v := .bool _) rfl) ?_
  refine al_nilT ?_
  refine aw_ret ?_
  refine ends1 rfl (rv_tmp (v := .bool _) rfl) ?_
  exact ⟨beqv hb (by rw [← hc]; simp), by exact SMp⟩

-- impl.unless
theorem unless_c {b : Bool} {c : Int} {H : AHeap} : ACd Tryd.prog 69 [.bool b, .int .i64 c] H (.int .i64 (if b = true then 0 else c)) (H) := by
  refine ac_gc0 (fun β => VR.plainT β (by first | rfl | simp [plainT, plainV, plain1])) (ac_body Tryd.func69 rfl Tryd.ntmps69 rfl ?_)
  refine aw_seq ?_
  refine aw_region ?_
  refine al_opd rfl rfl rfl (ao_as (v := .int _ _) rfl) ?_
  refine al_nilT ?_
  refine aw_seq ?_
  refine aw_seq ?_
  refine aw_region ?_
  refine al_opd rfl rfl rfl (ao_mv (v := .bool _) rfl) ?_
  refine al_nilT ?_
  refine aw_cond rfl (fun h1_ => ?_) (fun h1_ => ?_)
  · try simp only [nrm] at h1_
    refine aw_seq ?_
    refine aw_region ?_
    refine al_opd rfl rfl rfl (ao_as (v := .int _ _) rfl) ?_
    refine al_nilT ?_
    refine aw_ret ?_
    refine thenA_r ?_
    refine ends1 rfl (rv_tmp (v := .int _ _) rfl) ?_
    exact ⟨by subst h1_; rfl, by exact SMp⟩
  · try simp only [nrm] at h1_
    refine aw_skipT ?_
    refine aw_seq ?_
    refine aw_region ?_
    refine al_opd rfl rfl rfl (ao_mv (v := .int _ _) rfl) ?_
    refine al_opd rfl rfl rfl (ao_as (v := .int _ _) rfl) ?_
    refine al_nilT ?_
    refine aw_ret ?_
    refine ends1 rfl (rv_tmp (v := .int _ _) rfl) ?_
    exact ⟨by subst h1_; rfl, by exact SMp⟩

-- impl.cellCode
theorem cellCode_c {r : Room} {l : List Spot} {w : Value} {c : Int} {H : AHeap} (hw : wfRoom r) (hl : ∀ (i : Nat) s, l[i]? = some s → wfSpot s) (hh : Sl H spot 2 w l) (hn : l.length ≤ 4194304) (hcc : cellC r l c) : ACd Tryd.prog 55 [.agg (roomC r).toArray, w] H (.int .i64 c) (H) := by
  obtain ⟨b1, hb1⟩ := exists_bool (okRoom r)
  obtain ⟨bc, hbc⟩ := exists_bool (∃ j, j < l.length ∧ ∃ s, l[j]? = some s ∧ ¬ isCell r s)
  refine ac_gc0 (fun β => VR.plainT β (by first | rfl | simp [plainT, plainV, plain1])) (ac_body Tryd.func55 rfl Tryd.ntmps55 rfl ?_)
  refine aw_seq ?_
  refine aw_region ?_
  refine al_opd rfl rfl rfl (ao_boxa (by rfl)) ?_
  refine al_opd rfl rfl rfl (ao_as (v := .int _ _) rfl) ?_
  refine al_nilT ?_
  refine aw_seq ?_
  refine aw_seq ?_
  refine aw_region ?_
  refine al_opd rfl rfl rfl (ao_loada Tryd.isAgg28 Tryd.sizeOf28 rfl (by exact HLp) (by rfl) (by exact RFp)) ?_
  refine al_opd rfl rfl rfl (ao_calld (implValid_c (r := r) (b := b1) hw hb1) Tryd.call17 rfl rfl) ?_
  refine al_opd rfl rfl rfl (ao_not rfl) ?_
  refine al_nilT ?_
  refine aw_cond rfl (fun h1_ => ?_) (fun h1_ => ?_)
  · try simp only [nrm] at h1_
    refine aw_seq ?_
    refine aw_region ?_
    refine al_opd rfl rfl rfl (ao_as (v := .int _ _) rfl) ?_
    refine al_nilT ?_
    refine aw_ret ?_
    refine thenA_r ?_
    refine ends1 rfl (rv_tmp (v := .int _ _) rfl) ?_
    refine ⟨?_, by exact SMp⟩
    rcases hcc with ⟨q, e⟩ | ⟨q, _⟩ | ⟨q, _⟩
    · rw [e]
    · exact absurd (hb1.mpr q) (by simp_all)
    · exact absurd (hb1.mpr q) (by simp_all)
  · try simp only [nrm] at h1_
    refine aw_skipT ?_
    refine aw_seq ?_
    refine aw_region ?_
    first | refine al_opd rfl rfl rfl (ao_mv (v := .slice _ _ _) rfl) ?_ | refine al_opd rfl rfl rfl (ao_mv (v := w) rfl) ?_
    refine al_opd rfl rfl rfl (ao_makeFunc rfl rfl) ?_
    refine al_opd rfl rfl rfl (ao_calld (containsSp_c (fnum := 71) (l := l) (w := w) (p := fun s => ¬ isCell r s) (b := bc) Tryd.call71 (fun i s h => by obtain ⟨b, hb⟩ := exists_bool (¬ isCell r s); exact ⟨b, hb, cellCode1_c (r := r) (s := s) (b := b) (by exact HLp) hw (hl i s h) hb⟩) (hh.mono (by exact SMp)) hn hbc) Tryd.call70 rfl rfl) ?_
    refine al_opd rfl rfl rfl (ao_not rfl) ?_
    refine al_opd rfl rfl rfl (ao_calld (unless_c (b := !bc) (c := 2)) Tryd.call69 rfl rfl) ?_
    refine al_opd rfl rfl rfl (ao_as (v := .int _ _) rfl) ?_
    refine al_nilT ?_
    refine aw_ret ?_
    refine ends1 rfl (rv_tmp (v := .int _ _) rfl) ?_
    refine ⟨?_, by exact SMp⟩
    rcases hcc with ⟨q, e⟩ | ⟨_, q, e⟩ | ⟨_, q, e⟩
    · exact absurd (hb1.mp (by simp_all)) q
    · rw [e, hbc.mpr q]; rfl
    · rw [e, Bool.eq_false_iff.mpr (fun x => q (hbc.mp x))]; rfl

-- impl.stateCode
theorem stateCode_c {r : Room} {l : List Spot} {w : Value} {c : Int} {H : AHeap} (hw : wfRoom r) (hl : ∀ (i : Nat) s, l[i]? = some s → wfSpot s) (hh : Sl H spot 2 w l) (hn : l.length ≤ 4194304) (hcc : stateC r l c) : ACd Tryd.prog 56 [.agg (roomC r).toArray, w] H (.int .i64 c) (H) := by
  obtain ⟨bc, hbc⟩ := exists_bool (∃ j, j < l.length ∧ ∃ s, l[j]? = some s ∧ ¬ isFree r s)
  refine ac_gc0 (fun β => VR.plainT β (by first | rfl | simp [plainT, plainV, plain1])) (ac_body Tryd.func56 rfl Tryd.ntmps56 rfl ?_)
  refine aw_seq ?_
  refine aw_region ?_
  refine al_opd rfl rfl rfl (ao_boxa (by rfl)) ?_
  refine al_opd rfl rfl rfl (ao_as (v := .int _ _) rfl) ?_
  refine al_nilT ?_
  refine aw_seq ?_
  refine aw_region ?_
  first | refine al_opd rfl rfl rfl (ao_mv (v := .slice _ _ _) rfl) ?_ | refine al_opd rfl rfl rfl (ao_mv (v := w) rfl) ?_
  refine al_opd rfl rfl rfl (ao_makeFunc rfl rfl) ?_
  refine al_opd rfl rfl rfl (ao_calld (containsSp_c (fnum := 72) (l := l) (w := w) (p := fun s => ¬ isFree r s) (b := bc) Tryd.call72 (fun i s h => by obtain ⟨b, hb⟩ := exists_bool (¬ isFree r s); exact ⟨b, hb, stateCode1_c (r := r) (s := s) (b := b) (by exact HLp) hw (hl i s h) hb⟩) (hh.mono (by exact SMp)) hn hbc) Tryd.call70 rfl rfl) ?_
  refine al_opd rfl rfl rfl (ao_not rfl) ?_
  refine al_opd rfl rfl rfl (ao_calld (unless_c (b := !bc) (c := 4)) Tryd.call69 rfl rfl) ?_
  refine al_opd rfl rfl rfl (ao_as (v := .int _ _) rfl) ?_
  refine al_nilT ?_
  refine aw_ret ?_
  refine ends1 rfl (rv_tmp (v := .int _ _) rfl) ?_
  refine ⟨?_, by exact SMp⟩
  rcases hcc with ⟨q, e⟩ | ⟨q, e⟩
  · rw [e, hbc.mpr q]; rfl
  · rw [e, Bool.eq_false_iff.mpr (fun x => q (hbc.mp x))]; rfl

-- impl.firstOf
theorem firstOf_c {l : List Int} {w : Value} {H : AHeap} (hh : Sl H i64 1 w l) (hn : l.length ≤ 4194304) : ACd Tryd.prog 54 [w] H (.int .i64 (firstNZ l)) (H) := by
  refine ac_gc0 (fun β => VR.plainT β (by first | rfl | simp [plainT, plainV, plain1])) (ac_body Tryd.func54 rfl Tryd.ntmps54 rfl ?_)
  refine aw_seq ?_
  refine aw_region ?_
  refine al_opd rfl rfl rfl (ao_as (v := .int _ _) rfl) ?_
  refine al_nilT ?_
  refine aw_seq ?_
  refine aw_seq ?_
  refine aw_region ?_
  first | refine al_opd rfl rfl rfl (ao_mv (v := .slice _ _ _) rfl) ?_ | refine al_opd rfl rfl rfl (ao_mv (v := w) rfl) ?_
  first | refine al_opd rfl rfl rfl (ao_lenS Tryd.underlying90 (by rfl)) ?_ | refine al_opd rfl rfl rfl (ao_lenN Tryd.underlying90 (by rfl)) ?_ | refine al_opd rfl rfl rfl (ao_lenV Tryd.underlying90 rfl hh) ?_
  refine al_opd rfl rfl rfl (ao_mv (v := .int _ _) rfl) ?_
  refine al_nilT ?_
  refine aw_block ?_
  refine aw_loop (fun (gk : Nat) (fr : AFr) (G : AHeap) => ∃ get : Nat → Value, fr = ⟨15, get⟩ ∧ (∃ i : Nat, i ≤ l.length ∧ gk = l.length - i ∧ H = G ∧ firstNZ l = firstNZ (l.drop i) ∧ get 5 = w ∧ get 6 = .int .i64 l.length ∧ get 7 = .int .i64 i)) (l.length) ⟨_, rfl, ?_⟩ ?_
  · exact ⟨0, Nat.zero_le _, rfl, rfl, rfl, rfl, rfl, rfl⟩
  · rintro gk fr G ⟨get, rfl, i, hi, rfl, rfl, hm, g5, g6, g7⟩
    refine aw_slot (d := 5) (v := w) (by first | assumption | rfl) ?_
    refine aw_slot (d := 6) (v := .int .i64 l.length) (by first | assumption | rfl) ?_
    refine aw_slot (d := 7) (v := .int .i64 i) (by first | assumption | rfl) ?_
    refine aw_seq ?_
    refine aw_region ?_
    refine al_opd rfl rfl rfl (ao_lss rfl rfl) ?_
    refine al_nilT ?_
    refine aw_seq ?_
    refine aw_cond rfl (fun h1_ => ?_) (fun h1_ => ?_)
    · try simp only [nrm] at h1_
      obtain ⟨x, hx⟩ := get_lt (show i < l.length by omega)
      refine aw_skipT ?_
      refine aw_seq ?_
      refine aw_block ?_
      refine aw_seq ?_
      refine aw_region ?_
      first | refine al_opd rfl rfl rfl (ao_indexAddrS Tryd.underlying90 Tryd.sizeOf2 rfl rfl (by exact IXp) (by exact IXp)) ?_ | refine al_opd rfl rfl rfl (ao_indexV Tryd.underlying90 Tryd.sizeOf2 rfl rfl hh (by exact IXp) (by exact IXp)) ?_
      first | refine al_opd rfl rfl rfl (ao_load (v := .int _ _) Tryd.isAgg2 (by rfl) (by exact HLp) (by rfl) (by exact RFp)) ?_ | refine al_opd rfl rfl rfl (ao_loadV (j := 0) (u := .int _ _) Tryd.isAgg2 hh rfl rfl hx rfl) ?_ | refine al_opd rfl rfl rfl (ao_loadV (j := 1) (u := .int _ _) Tryd.isAgg2 hh rfl rfl hx rfl) ?_
      refine al_opd rfl rfl rfl (ao_as (v := .int _ _) rfl) ?_
      refine al_nilT ?_
      refine aw_seq ?_
      refine aw_region ?_
      refine al_opd rfl rfl rfl (ao_mv (v := .int _ _) rfl) ?_
      refine al_opd rfl rfl rfl (ao_neq rfl rfl) ?_
      refine al_nilT ?_
      refine aw_cond rfl (fun h2_ => ?_) (fun h2_ => ?_)
      · try simp only [nrm] at h2_
        refine aw_seq ?_
        refine aw_region ?_
        refine al_opd rfl rfl rfl (ao_mv (v := .int _ _) rfl) ?_
        refine al_opd rfl rfl rfl (ao_as (v := .int _ _) rfl) ?_
        refine al_nilT ?_
        refine aw_ret ?_
        refine blockA_r ?_
        refine thenA_r ?_
        refine thenA_r ?_
        refine blockA_r ?_
        refine thenA_r ?_
        refine ends1 rfl (rv_tmp (v := .int _ _) rfl) ?_
        exact ⟨congrArg (Value.int .i64) (firstNZ_hit hm hx h2_), by exact SMp⟩
      · try simp only [nrm] at h2_
        refine aw_skipB ?_
        refine thenA_n ?_
        refine aw_region ?_
        first | refine al_opd rfl rfl rfl ((ao_add rfl rfl).val (nw_i64 BDp BDp)) ?_ | refine al_opd rfl rfl rfl (ao_add rfl rfl) ?_
        refine al_opd rfl rfl rfl (ao_mv (v := .int _ _) rfl) ?_
        refine al_nilT ?_
        exact ⟨_, by omega, _, rfl, i + 1, by omega, rfl, rfl, firstNZ_step hm hx h2_, rfl, rfl, by rfl⟩
    · try simp only [nrm] at h1_
      refine aw_exit ?_
      refine thenA_x ?_
      refine thenA_x ?_
      refine blockA_hit ?_
      refine thenA_n ?_
      refine aw_seq ?_
      refine aw_region ?_
      refine al_opd rfl rfl rfl (ao_as (v := .int _ _) rfl) ?_
      refine al_nilT ?_
      refine aw_ret ?_
      refine ends1 rfl (rv_tmp (v := .int _ _) rfl) ?_
      exact ⟨congrArg (Value.int .i64) (firstNZ_end hm (by omega)), by exact SMp⟩

-- impl.size[impl.Spot]
theorem sizeSpot_c {v : Value} {l : List Spot} {H : AHeap} (ha : Sl H spot 2 v l) : ACd Tryd.prog 51 [v] H (.int .i64 l.length) (H) := by
  refine ac_gc0 (fun β => VR.plainT β (by first | rfl | simp [plainT, plainV, plain1])) (ac_body Tryd.func51 rfl Tryd.ntmps51 rfl ?_)
  refine aw_seq ?_
  refine aw_region ?_
  refine al_opd rfl rfl rfl (ao_as (v := .int _ _) rfl) ?_
  refine al_nilT ?_
  refine aw_seq ?_
  refine aw_region ?_
  first | refine al_opd rfl rfl rfl (ao_mv (v := .slice _ _ _) rfl) ?_ | refine al_opd rfl rfl rfl (ao_mv (v := v) rfl) ?_
  first | refine al_opd rfl rfl rfl (ao_lenS Tryd.underlying37 (by rfl)) ?_ | refine al_opd rfl rfl rfl (ao_lenN Tryd.underlying37 (by rfl)) ?_ | refine al_opd rfl rfl rfl (ao_lenV Tryd.underlying37 rfl ha) ?_
  refine al_opd rfl rfl rfl (ao_as (v := .int _ _) rfl) ?_
  refine al_nilT ?_
  refine aw_ret ?_
  refine ends1 rfl (rv_tmp (v := .int _ _) rfl) ?_
  exact ⟨by first | rfl | (simp [*]; (first | done | fail)), by exact SMp⟩

end Go.Proofs.YtmmmjdbknepjgaaDoor
