/- Contracts of the program's functions over abstract heaps. -/
import Derived.Test.YtkjmcolnoehjbaaWay
import Derived.Test.YtkjmcolnoehjbaaFn
namespace Go.Proofs.Ytkjmcolnoehjbaa
open Go Go.AW Go.Proofs
set_option linter.unusedVariables false
set_option linter.unusedSimpArgs false
set_option maxRecDepth 100000
set_option maxHeartbeats 2000000

-- spec.l01Before
theorem l01Before_c {a b : Spot} {H : AHeap} (ha : wfSpot a) (hb : wfSpot b) : ACd Try.prog 72 [.agg #[.int .i8 a.x, .int .i8 a.y], .agg #[.int .i8 b.x, .int .i8 b.y]] H (.bool (decide (befS a b))) (H) := by
  have ⟨⟨a1, a2⟩, a3, a4⟩ := ha
  have ⟨⟨b1, b2⟩, b3, b4⟩ := hb
  refine ac_gc0 (fun β => VR.plainT β (by first | rfl | simp [plainT, plainV, plain1])) (ac_body Try.func72 rfl Try.ntmps72 rfl ?_)
  refine aw_seq ?_
  refine aw_region ?_
  refine al_opd rfl rfl rfl (ao_boxa (by rfl)) ?_
  refine al_opd rfl rfl rfl (ao_boxa (by rfl)) ?_
  refine al_opd rfl rfl rfl (ao_as (v := .bool _) rfl) ?_
  refine al_nilT ?_
  refine aw_seq ?_
  refine aw_region ?_
  refine al_opd rfl rfl rfl (ao_fieldAddr fo_33_1 rfl) ?_
  refine al_opd rfl rfl rfl (ao_load (v := .int _ _) Try.isAgg22 (by rfl) (by exact HLp) (by rfl) (by exact RFp)) ?_
  refine al_opd rfl rfl rfl (ao_fieldAddr fo_33_1 rfl) ?_
  refine al_opd rfl rfl rfl (ao_load (v := .int _ _) Try.isAgg22 (by rfl) (by exact HLp) (by rfl) (by exact RFp)) ?_
  refine al_opd rfl rfl rfl (ao_lss rfl rfl) ?_
  refine al_opd rfl rfl rfl (ao_mv (v := .bool _) rfl) ?_
  refine al_cases (d := 10) rfl (fun h1_ => ?_) (fun h1_ => ?_)
  · try simp only [decide_eq_true_eq, decide_eq_false_iff_not, Bool.not_eq_true', Bool.not_eq_false', Bool.and_eq_true, Bool.or_eq_true, Bool.and_eq_false_iff, Bool.or_eq_false_iff, beq_iff_eq, bne_iff_ne, beq_eq_false_iff_ne, bne_eq_false_iff_eq, ne_eq, Decidable.not_not, Bool.decide_eq_true] at h1_
    refine al_gno rfl rfl rfl rfl rfl ?_
    refine al_gno rfl rfl rfl rfl rfl ?_
    refine al_gno rfl rfl rfl rfl rfl ?_
    refine al_gno rfl rfl rfl rfl rfl ?_
    refine al_gno rfl rfl rfl rfl rfl ?_
    refine al_gno rfl rfl rfl rfl rfl ?_
    refine al_gnu rfl rfl rfl rfl ?_
    refine al_gnu rfl rfl rfl rfl ?_
    refine al_gnu rfl rfl rfl rfl ?_
    refine al_gnu rfl rfl rfl rfl ?_
    refine al_gnu rfl rfl rfl rfl ?_
    refine al_gno rfl rfl rfl rfl rfl ?_
    refine al_opd rfl rfl rfl (ao_pickT rfl (v := .bool _) rfl) ?_
    refine al_opd rfl rfl rfl (ao_as (v := .bool _) rfl) ?_
    refine al_nilT ?_
    refine aw_ret ?_
    refine ends1 rfl (rv_tmp (v := .bool _) rfl) ?_
    refine ⟨congrArg Value.bool ?_, by exact SMp⟩
    rw [Bool.eq_iff_iff]
    first | (simp only [befS, decide_eq_true_eq, true_iff, iff_true, Bool.false_eq_true, false_iff]; omega) | (simp [befS]; omega) | (simp_all [befS]; done)
  · try simp only [decide_eq_true_eq, decide_eq_false_iff_not, Bool.not_eq_true', Bool.not_eq_false', Bool.and_eq_true, Bool.or_eq_true, Bool.and_eq_false_iff, Bool.or_eq_false_iff, beq_iff_eq, bne_iff_ne, beq_eq_false_iff_ne, bne_eq_false_iff_eq, ne_eq, Decidable.not_not, Bool.decide_eq_true] at h1_
    refine al_gyes rfl rfl rfl rfl rfl (ao_fieldAddr fo_33_1 rfl) ?_
    refine al_gyes rfl rfl rfl rfl rfl (ao_load (v := .int _ _) Try.isAgg22 (by rfl) (by exact HLp) (by rfl) (by exact RFp)) ?_
    refine al_gyes rfl rfl rfl rfl rfl (ao_fieldAddr fo_33_1 rfl) ?_
    refine al_gyes rfl rfl rfl rfl rfl (ao_load (v := .int _ _) Try.isAgg22 (by rfl) (by exact HLp) (by rfl) (by exact RFp)) ?_
    refine al_gyes rfl rfl rfl rfl rfl (ao_eql rfl rfl) ?_
    refine al_gyes rfl rfl rfl rfl rfl (ao_mv (v := .bool _) rfl) ?_
    refine al_cases (d := 16) rfl (fun h2_ => ?_) (fun h2_ => ?_)
    · try simp only [decide_eq_true_eq, decide_eq_false_iff_not, Bool.not_eq_true', Bool.not_eq_false', Bool.and_eq_true, Bool.or_eq_true, Bool.and_eq_false_iff, Bool.or_eq_false_iff, beq_iff_eq, bne_iff_ne, beq_eq_false_iff_ne, bne_eq_false_iff_eq, ne_eq, Decidable.not_not, Bool.decide_eq_true] at h2_
      refine al_gyes rfl rfl rfl rfl rfl (ao_fieldAddr fo_33_0 rfl) ?_
      refine al_gyes rfl rfl rfl rfl rfl (ao_load (v := .int _ _) Try.isAgg22 (by rfl) (by exact HLp) (by rfl) (by exact RFp)) ?_
      refine al_gyes rfl rfl rfl rfl rfl (ao_fieldAddr fo_33_0 rfl) ?_
      refine al_gyes rfl rfl rfl rfl rfl (ao_load (v := .int _ _) Try.isAgg22 (by rfl) (by exact HLp) (by rfl) (by exact RFp)) ?_
      refine al_gyes rfl rfl rfl rfl rfl (ao_lss rfl rfl) ?_
      refine al_gyes rfl rfl rfl rfl rfl (ao_pickT rfl (v := .bool _) rfl) ?_
      refine al_opd rfl rfl rfl (ao_pickF rfl (v := .bool _) rfl) ?_
      refine al_opd rfl rfl rfl (ao_as (v := .bool _) rfl) ?_
      refine al_nilT ?_
      refine aw_ret ?_
      refine ends1 rfl (rv_tmp (v := .bool _) rfl) ?_
      refine ⟨congrArg Value.bool ?_, by exact SMp⟩
      rw [Bool.eq_iff_iff]
      first | (simp only [befS, decide_eq_true_eq, true_iff, iff_true, Bool.false_eq_true, false_iff]; omega) | (simp [befS]; omega) | (simp_all [befS]; done)
    · try simp only [decide_eq_true_eq, decide_eq_false_iff_not, Bool.not_eq_true', Bool.not_eq_false', Bool.and_eq_true, Bool.or_eq_true, Bool.and_eq_false_iff, Bool.or_eq_false_iff, beq_iff_eq, bne_iff_ne, beq_eq_false_iff_ne, bne_eq_false_iff_eq, ne_eq, Decidable.not_not, Bool.decide_eq_true] at h2_
      refine al_gno rfl rfl rfl rfl rfl ?_
      refine al_gno rfl rfl rfl rfl rfl ?_
      refine al_gno rfl rfl rfl rfl rfl ?_
      refine al_gno rfl rfl rfl rfl rfl ?_
      refine al_gno rfl rfl rfl rfl rfl ?_
      refine al_gyes rfl rfl rfl rfl rfl (ao_pickF rfl (v := .bool _) rfl) ?_
      refine al_opd rfl rfl rfl (ao_pickF rfl (v := .bool _) rfl) ?_
      refine al_opd rfl rfl rfl (ao_as (v := .bool _) rfl) ?_
      refine al_nilT ?_
      refine aw_ret ?_
      refine ends1 rfl (rv_tmp (v := .bool _) rfl) ?_
      refine ⟨congrArg Value.bool ?_, by exact SMp⟩
      rw [Bool.eq_iff_iff]
      first | (simp only [befS, decide_eq_true_eq, true_iff, iff_true, Bool.false_eq_true, false_iff]; omega) | (simp [befS]; omega) | (simp_all [befS]; done)

-- slices.DeleteFunc[[]impl.Spot,impl.Spot]
theorem delF_c {fnum : Nat} {fs cs : Array Value} {l : List Spot} {p : Spot → Bool} {lb : Nat} {H : AHeap} (hfn : ∀ (args : Array Value) (w : World), (callFunc fnum args).run Try.prog w = .ok (.enter fnum args) w) (hcall : ∀ (G : AHeap) s, s ∈ l → (∀ b, b < H.next → b ≠ lb → G.blk b = H.blk b) → ACd Try.prog fnum (fs.toList ++ [.agg #[.int .i8 s.x, .int .i8 s.y]] ++ cs.toList) G (.bool (p s)) G) (hk : H.blk lb = some (.cells (fl spot l) 2)) (hl : l.length ≤ 1000) : ACd Try.prog 59 [.slice (some ⟨lb, 0, none⟩) l.length (l.length + 1), .func (.func fnum) fs cs] H (.slice (some ⟨lb, 0, none⟩) (keepL p l).length ((keepL p l).length + 1)) (H.set lb (.cells (fl spot (delL p l)) 2)) := by
  have hltb := AHeap.lt hk
  obtain ⟨ri, hri⟩ := exists_first (fun j => ∃ s, l[j]? = some s ∧ p s = true) l.length
  refine ac_gc1s (fun ρ h => vr_sl h (Nat.le_succ _) (fun e => by omega)) (vrl_fl spot_plain _) ⟨_, hk⟩ (ac_body Try.func59 rfl Try.ntmps59 rfl ?_)
  refine aw_seq ?_
  refine aw_region ?_
  first | refine al_opd rfl rfl rfl (ao_as (v := .slice _ _ _) rfl) ?_ | refine al_opd rfl rfl rfl (ao_as (v := .func (.func fnum) fs cs) rfl) ?_ | refine al_opd rfl rfl rfl (ao_as (v := .slice (some ⟨lb, 0, none⟩) l.length (l.length + 1)) rfl) ?_
  refine al_nilT ?_
  refine aw_seq ?_
  refine aw_region ?_
  first | refine al_opd rfl rfl rfl (ao_mv (v := .slice _ _ _) rfl) ?_ | refine al_opd rfl rfl rfl (ao_mv (v := .func (.func fnum) fs cs) rfl) ?_ | refine al_opd rfl rfl rfl (ao_mv (v := .slice (some ⟨lb, 0, none⟩) l.length (l.length + 1)) rfl) ?_
  first | refine al_opd rfl rfl rfl (ao_mv (v := .func _ _ _) rfl) ?_ | refine al_opd rfl rfl rfl (ao_mv (v := .func (.func fnum) fs cs) rfl) ?_ | refine al_opd rfl rfl rfl (ao_mv (v := .slice (some ⟨lb, 0, none⟩) l.length (l.length + 1)) rfl) ?_
  refine al_opd rfl rfl rfl (ao_calld (indexSp_c (l := l) (p := fun s => p s = true) (r := ri) hfn (fun i s h => ⟨p s, Iff.rfl, hcall H s (List.mem_of_getElem? h) (fun _ _ _ => rfl)⟩) (Sl.full spot_len hk rfl rfl rfl) (by omega) hri) Try.call73 rfl rfl) ?_
  refine al_opd rfl rfl rfl (ao_as (v := .int _ _) rfl) ?_
  refine al_nilT ?_
  refine aw_seq ?_
  refine aw_seq ?_
  refine aw_region ?_
  refine al_opd rfl rfl rfl (ao_mv (v := .int _ _) rfl) ?_
  refine al_opd rfl rfl rfl (ao_eql rfl rfl) ?_
  refine al_nilT ?_
  refine aw_cond rfl (fun h1_ => ?_) (fun h1_ => ?_)
  · try simp only [decide_eq_true_eq, decide_eq_false_iff_not, Bool.not_eq_true', Bool.not_eq_false', Bool.and_eq_true, Bool.or_eq_true, Bool.and_eq_false_iff, Bool.or_eq_false_iff, beq_iff_eq, bne_iff_ne, beq_eq_false_iff_ne, bne_eq_false_iff_eq, ne_eq, Decidable.not_not, Bool.decide_eq_true] at h1_
    have hke : keepL p l = l := keep_none (first_no hri h1_)
    refine aw_seq ?_
    refine aw_region ?_
    first | refine al_opd rfl rfl rfl (ao_mv (v := .slice _ _ _) rfl) ?_ | refine al_opd rfl rfl rfl (ao_mv (v := .func (.func fnum) fs cs) rfl) ?_ | refine al_opd rfl rfl rfl (ao_mv (v := .slice (some ⟨lb, 0, none⟩) l.length (l.length + 1)) rfl) ?_
    first | refine al_opd rfl rfl rfl (ao_as (v := .slice _ _ _) rfl) ?_ | refine al_opd rfl rfl rfl (ao_as (v := .func (.func fnum) fs cs) rfl) ?_ | refine al_opd rfl rfl rfl (ao_as (v := .slice (some ⟨lb, 0, none⟩) l.length (l.length + 1)) rfl) ?_
    refine al_nilT ?_
    refine aw_ret ?_
    refine thenA_r ?_
    refine ends1 rfl (rv_tmp (v := .slice _ _ _) rfl) ?_
    exact ⟨by rw [hke], by rw [del_none hke, set_self hk]; exact Same.refl _ _⟩
  · try simp only [decide_eq_true_eq, decide_eq_false_iff_not, Bool.not_eq_true', Bool.not_eq_false', Bool.and_eq_true, Bool.or_eq_true, Bool.and_eq_false_iff, Bool.or_eq_false_iff, beq_iff_eq, bne_iff_ne, beq_eq_false_iff_ne, bne_eq_false_iff_eq, ne_eq, Decidable.not_not, Bool.decide_eq_true] at h1_
    obtain ⟨i0, hi0, rfl, hpi, hno⟩ : ∃ k : Nat, k < l.length ∧ ri = k ∧ (∃ s, l[k]? = some s ∧ p s = true) ∧ ∀ j : Nat, j < k → ¬ ∃ s, l[j]? = some s ∧ p s = true := first_yes hri h1_
    refine aw_skipT ?_
    refine aw_seq ?_
    refine aw_seq ?_
    refine aw_region ?_
    refine al_opd rfl rfl rfl (ao_mv (v := .int _ _) rfl) ?_
    first | refine al_opd rfl rfl rfl ((ao_add rfl rfl).val (nw_i64 BDp BDp)) ?_ | refine al_opd rfl rfl rfl (ao_add rfl rfl) ?_
    refine al_opd rfl rfl rfl (ao_as (v := .int _ _) rfl) ?_
    refine al_nilT ?_
    refine aw_block ?_
    refine aw_loop (fun (gk : Nat) (fr : AFr) (G : AHeap) => ∃ get : Nat → Value, fr = ⟨42, get⟩ ∧ (∃ (i j : Nat) (z : List Spot), Del p l z i j ∧ gk = l.length - j ∧ Same H.next (H.set lb (.cells (fl spot z) 2)) G ∧ H.next ≤ G.next ∧ get 0 = .slice (some ⟨lb, 0, none⟩) l.length (l.length + 1) ∧ get 1 = .func (.func fnum) fs cs ∧ get 5 = .int .i64 i ∧ get 6 = .int .i64 j)) (l.length - (i0 + 1)) ⟨_, rfl, ?_⟩ ?_
    · exact ⟨i0, i0 + 1, l, Del.start hi0 hno hpi, rfl, by rw [set_self hk]; exact Same.refl _ _, Nat.le_refl _, rfl, rfl, rfl, by rfl⟩
    · rintro gk fr G ⟨get, rfl, i, j, z, hD, rfl, hG, hnx, g0, g1, g5, g6⟩
      have hle := hD.le
      have hlz := hD.len
      have hij := hD.lt
      have hkz : G.blk lb = some (.cells (fl spot z) 2) := (hG lb hltb).trans (blk_set_same hk)
      have hsz : Sl G spot 2 (.slice (some ⟨lb, 0, none⟩) l.length (l.length + 1)) z := Sl.full spot_len hkz rfl rfl hlz.symm
      have hoth : ∀ b, b < H.next → b ≠ lb → G.blk b = H.blk b := fun b hb hne => (hG b hb).trans (blk_set_ne hne)
      refine aw_slot (d := 0) (v := .slice (some ⟨lb, 0, none⟩) l.length (l.length + 1)) (by first | assumption | rfl) ?_
      refine aw_slot (d := 1) (v := .func (.func fnum) fs cs) (by first | assumption | rfl) ?_
      refine aw_slot (d := 5) (v := .int .i64 i) (by first | assumption | rfl) ?_
      refine aw_slot (d := 6) (v := .int .i64 j) (by first | assumption | rfl) ?_
      refine aw_seq ?_
      refine aw_seq ?_
      refine aw_region ?_
      refine al_opd rfl rfl rfl (ao_mv (v := .int _ _) rfl) ?_
      first | refine al_opd rfl rfl rfl (ao_mv (v := .slice _ _ _) rfl) ?_ | refine al_opd rfl rfl rfl (ao_mv (v := .func (.func fnum) fs cs) rfl) ?_ | refine al_opd rfl rfl rfl (ao_mv (v := .slice (some ⟨lb, 0, none⟩) l.length (l.length + 1)) rfl) ?_
      first | refine al_opd rfl rfl rfl (ao_lenS Try.underlying40 (by rfl)) ?_ | refine al_opd rfl rfl rfl (ao_lenN Try.underlying40 (by rfl)) ?_ | refine al_opd rfl rfl rfl (ao_lenV Try.underlying40 rfl hsz) ?_
      refine al_opd rfl rfl rfl (ao_lss rfl rfl) ?_
      refine al_nilT ?_
      refine aw_cond rfl (fun h2_ => ?_) (fun h2_ => ?_)
      · try simp only [decide_eq_true_eq, decide_eq_false_iff_not, Bool.not_eq_true', Bool.not_eq_false', Bool.and_eq_true, Bool.or_eq_true, Bool.and_eq_false_iff, Bool.or_eq_false_iff, beq_iff_eq, bne_iff_ne, beq_eq_false_iff_ne, bne_eq_false_iff_eq, ne_eq, Decidable.not_not, Bool.decide_eq_true] at h2_
        obtain ⟨x, hx⟩ := get_lt (show j < l.length by omega)
        have hxz := hD.get hx
        refine aw_skipT ?_
        refine aw_seq ?_
        refine aw_block ?_
        refine aw_seq ?_
        refine aw_region ?_
        first | refine al_opd rfl rfl rfl (ao_mv (v := .slice _ _ _) rfl) ?_ | refine al_opd rfl rfl rfl (ao_mv (v := .func (.func fnum) fs cs) rfl) ?_ | refine al_opd rfl rfl rfl (ao_mv (v := .slice (some ⟨lb, 0, none⟩) l.length (l.length + 1)) rfl) ?_
        refine al_opd rfl rfl rfl (ao_mv (v := .int _ _) rfl) ?_
        first | refine al_opd rfl rfl rfl (ao_indexAddrS Try.underlying40 Try.sizeOf33 rfl rfl (by exact IXp) (by exact IXp)) ?_ | refine al_opd rfl rfl rfl (ao_indexV Try.underlying40 Try.sizeOf33 rfl rfl hsz (by exact IXp) (by exact IXp)) ?_
        first | refine al_opd rfl rfl rfl (ao_loada Try.isAgg33 Try.sizeOf33 rfl (by exact HLp) (by rfl) (by exact RFp)) ?_ | refine al_opd rfl rfl rfl (ao_loadsV (A := #[.int _ _, .int _ _]) Try.isAgg33 Try.sizeOf33 hsz rfl hxz rfl (by decide)) ?_
        refine al_opd rfl rfl rfl (ao_alloca (zv33) (by rfl)) ?_
        first | refine al_opd rfl rfl rfl ((ao_storeL Try.sizeOf33 (by rfl) (by rfl) (by exact HLp) (by exact RFp) (by exact RFp) (by exact RFp)).to (SetR.eq (by exact SRp))) ?_ | refine al_opd rfl rfl rfl ((ao_storeP (ds := [.int _ _, .int _ _]) Try.sizeOf33 (by rfl) (by rfl) (by exact HLp) (by exact RFp) (by exact RFp) (by (rw [fl_len spot_len]; omega))).to (SetR.eq (by exact SRp))) ?_
        refine al_nilT ?_
        refine aw_seq ?_
        refine aw_region ?_
        first | refine al_opd rfl rfl rfl (ao_mv (v := .func _ _ _) rfl) ?_ | refine al_opd rfl rfl rfl (ao_mv (v := .func (.func fnum) fs cs) rfl) ?_ | refine al_opd rfl rfl rfl (ao_mv (v := .slice (some ⟨lb, 0, none⟩) l.length (l.length + 1)) rfl) ?_
        first | refine al_opd rfl rfl rfl (ao_loada Try.isAgg33 Try.sizeOf33 rfl (by exact HLp) (by rfl) (by exact RFp)) ?_ | refine al_opd rfl rfl rfl (ao_loadsV (A := #[.int _ _, .int _ _]) Try.isAgg33 Try.sizeOf33 hsz rfl hxz rfl (by decide)) ?_
        refine al_opd rfl rfl rfl (ao_callv hfn (by rfl) (by rfl) (hcall _ x (List.mem_of_getElem? hx) (fun b hb hne => (blk_push_ne (by omega)).trans (hoth b hb hne)))) ?_
        refine al_opd rfl rfl rfl (ao_not rfl) ?_
        refine al_nilT ?_
        refine aw_cond rfl (fun h3_ => ?_) (fun h3_ => ?_)
        · try simp only [decide_eq_true_eq, decide_eq_false_iff_not, Bool.not_eq_true', Bool.not_eq_false', Bool.and_eq_true, Bool.or_eq_true, Bool.and_eq_false_iff, Bool.or_eq_false_iff, beq_iff_eq, bne_iff_ne, beq_eq_false_iff_ne, bne_eq_false_iff_eq, ne_eq, Decidable.not_not, Bool.decide_eq_true] at h3_
          have hpx : p x = false := by simpa using h3_
          refine aw_seq ?_
          refine aw_region ?_
          first | refine al_opd rfl rfl rfl (ao_mv (v := .slice _ _ _) rfl) ?_ | refine al_opd rfl rfl rfl (ao_mv (v := .func (.func fnum) fs cs) rfl) ?_ | refine al_opd rfl rfl rfl (ao_mv (v := .slice (some ⟨lb, 0, none⟩) l.length (l.length + 1)) rfl) ?_
          refine al_opd rfl rfl rfl (ao_mv (v := .int _ _) rfl) ?_
          first | refine al_opd rfl rfl rfl (ao_loada Try.isAgg33 Try.sizeOf33 rfl (by exact HLp) (by rfl) (by exact RFp)) ?_ | refine al_opd rfl rfl rfl (ao_loadsV (A := #[.int _ _, .int _ _]) Try.isAgg33 Try.sizeOf33 hsz rfl hxz rfl (by decide)) ?_
          first | refine al_opd rfl rfl rfl (ao_indexAddrS Try.underlying40 Try.sizeOf33 rfl rfl (by exact IXp) (by exact IXp)) ?_ | refine al_opd rfl rfl rfl (ao_indexV Try.underlying40 Try.sizeOf33 rfl rfl hsz (by exact IXp) (by exact IXp)) ?_
          first | refine al_opd rfl rfl rfl ((ao_storeL Try.sizeOf33 (by rfl) (by rfl) (by exact HLp) (by exact RFp) (by exact RFp) (by exact RFp)).to (SetR.eq (by exact SRp))) ?_ | refine al_opd rfl rfl rfl ((ao_storeP (ds := [.int _ _, .int _ _]) Try.sizeOf33 (by rfl) (by rfl) (by exact HLp) (by exact RFp) (by exact RFp) (by (rw [fl_len spot_len]; omega))).to (SetR.eq (by exact SRp))) ?_
          refine al_nilT ?_
          refine aw_region ?_
          refine al_opd rfl rfl rfl (ao_mv (v := .int _ _) rfl) ?_
          first | refine al_opd rfl rfl rfl ((ao_add rfl rfl).val (nw_i64 BDp BDp)) ?_ | refine al_opd rfl rfl rfl (ao_add rfl rfl) ?_
          refine al_opd rfl rfl rfl (ao_as (v := .int _ _) rfl) ?_
          refine al_nilB ?_
          refine thenA_n ?_
          refine aw_region ?_
          refine al_opd rfl rfl rfl (ao_mv (v := .int _ _) rfl) ?_
          first | refine al_opd rfl rfl rfl ((ao_add rfl rfl).val (nw_i64 BDp BDp)) ?_ | refine al_opd rfl rfl rfl (ao_add rfl rfl) ?_
          refine al_opd rfl rfl rfl (ao_as (v := .int _ _) rfl) ?_
          refine al_nilT ?_
          exact ⟨_, by omega, _, rfl, i + 1, j + 1, z.set i x, hD.keep hx hpx, rfl, by rw [← fl_setzL (y := x) spot_len (show i < z.length by omega)]; exact (Same.reset hk hltb hG).push (by exact LEp) _, by exact LEp, rfl, rfl, by rfl, by rfl⟩
        · try simp only [decide_eq_true_eq, decide_eq_false_iff_not, Bool.not_eq_true', Bool.not_eq_false', Bool.and_eq_true, Bool.or_eq_true, Bool.and_eq_false_iff, Bool.or_eq_false_iff, beq_iff_eq, bne_iff_ne, beq_eq_false_iff_ne, bne_eq_false_iff_eq, ne_eq, Decidable.not_not, Bool.decide_eq_true] at h3_
          have hpx : p x = true := by simpa using h3_
          refine aw_skipB ?_
          refine thenA_n ?_
          refine aw_region ?_
          refine al_opd rfl rfl rfl (ao_mv (v := .int _ _) rfl) ?_
          first | refine al_opd rfl rfl rfl ((ao_add rfl rfl).val (nw_i64 BDp BDp)) ?_ | refine al_opd rfl rfl rfl (ao_add rfl rfl) ?_
          refine al_opd rfl rfl rfl (ao_as (v := .int _ _) rfl) ?_
          refine al_nilT ?_
          exact ⟨_, by omega, _, rfl, i, j + 1, z, hD.skip hx hpx, rfl, by exact SMp, by exact LEp, rfl, rfl, rfl, by rfl⟩
      · try simp only [decide_eq_true_eq, decide_eq_false_iff_not, Bool.not_eq_true', Bool.not_eq_false', Bool.and_eq_true, Bool.or_eq_true, Bool.and_eq_false_iff, Bool.or_eq_false_iff, beq_iff_eq, bne_iff_ne, beq_eq_false_iff_ne, bne_eq_false_iff_eq, ne_eq, Decidable.not_not, Bool.decide_eq_true] at h2_
        obtain ⟨hik, hil, hfin⟩ := hD.fin (by omega)
        refine aw_exit ?_
        refine thenA_x ?_
        refine thenA_x ?_
        refine blockA_hit ?_
        refine thenA_n ?_
        refine aw_seq ?_
        refine aw_region ?_
        first | refine al_opd rfl rfl rfl (ao_mv (v := .slice _ _ _) rfl) ?_ | refine al_opd rfl rfl rfl (ao_mv (v := .func (.func fnum) fs cs) rfl) ?_ | refine al_opd rfl rfl rfl (ao_mv (v := .slice (some ⟨lb, 0, none⟩) l.length (l.length + 1)) rfl) ?_
        refine al_opd rfl rfl rfl (ao_mv (v := .int _ _) rfl) ?_
        refine al_opd rfl rfl rfl (ao_sliceLo Try.underlying40 Try.sizeOf33 (by rfl) (by rfl) (by first | rfl | omega) hkz (by rfl) (by omega)) ?_
        refine al_opd rfl rfl rfl ((ao_clear (el := spot) (z0 := z0S) (size := 2) Try.underlying40 Try.zeroValue33 (by rfl) (by rfl) (by rfl) (by rfl) (by rfl) (by exact HLp) (by (rw [fl_len spot_len]; omega))).to (SetR.eq (by exact SRp))) ?_
        refine al_nilT ?_
        refine aw_seq ?_
        refine aw_region ?_
        first | refine al_opd rfl rfl rfl (ao_mv (v := .slice _ _ _) rfl) ?_ | refine al_opd rfl rfl rfl (ao_mv (v := .func (.func fnum) fs cs) rfl) ?_ | refine al_opd rfl rfl rfl (ao_mv (v := .slice (some ⟨lb, 0, none⟩) l.length (l.length + 1)) rfl) ?_
        refine al_opd rfl rfl rfl (ao_mv (v := .int _ _) rfl) ?_
        refine al_opd rfl rfl rfl (ao_sliceHi Try.underlying40 Try.sizeOf33 (by rfl) (by rfl) (by first | rfl | omega) (by exact HLp) (by rfl) (by omega)) ?_
        first | refine al_opd rfl rfl rfl (ao_as (v := .slice _ _ _) rfl) ?_ | refine al_opd rfl rfl rfl (ao_as (v := .func (.func fnum) fs cs) rfl) ?_ | refine al_opd rfl rfl rfl (ao_as (v := .slice (some ⟨lb, 0, none⟩) l.length (l.length + 1)) rfl) ?_
        refine al_nilT ?_
        refine aw_ret ?_
        refine ends1 rfl (rv_tmp (v := .slice _ _ _) rfl) ?_
        exact ⟨by rw [← hik], by rw [← hfin]; exact Same.reset hk hltb hG⟩

end Go.Proofs.Ytkjmcolnoehjbaa
