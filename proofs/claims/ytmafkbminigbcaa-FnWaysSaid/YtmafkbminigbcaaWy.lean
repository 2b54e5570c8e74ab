/- Contracts of the program's functions over abstract heaps. -/
import Derived.Test.YtmafkbminigbcaaWay
import Derived.Test.YtmafkbminigbcaaFn
import Derived.Test.YtmafkbminigbcaaSt
import Derived.Test.YtmafkbminigbcaaCp
namespace Go.Proofs.Ytmafkbminigbcaa
open Go Go.AW Go.Proofs
set_option linter.unusedVariables false
set_option linter.unusedSimpArgs false
set_option maxRecDepth 100000
set_option maxHeartbeats 2000000

-- spec.l01Before
theorem l01Before_c {a b : Spot} {H : AHeap} (ha : wfSpot a) (hb : wfSpot b) : ACd Try.prog 66 [.agg #[.int .i8 a.x, .int .i8 a.y], .agg #[.int .i8 b.x, .int .i8 b.y]] H (.bool (decide (befS a b))) (H) := by
  have ⟨⟨a1, a2⟩, a3, a4⟩ := ha
  have ⟨⟨b1, b2⟩, b3, b4⟩ := hb
  refine ac_gc0 (fun β => VR.plainT β (by first | rfl | simp [plainT, plainV, plain1])) (ac_body Try.func66 rfl Try.ntmps66 rfl ?_)
  refine aw_seq ?_
  refine aw_region ?_
  refine al_opd rfl rfl rfl (ao_boxa (by rfl)) ?_
  refine al_opd rfl rfl rfl (ao_boxa (by rfl)) ?_
  refine al_opd rfl rfl rfl (ao_as (v := .bool _) rfl) ?_
  refine al_nilT ?_
  refine aw_seq ?_
  refine aw_region ?_
  refine al_opd rfl rfl rfl (ao_fieldAddr fo_31_1 rfl) ?_
  refine al_opd rfl rfl rfl (ao_load (v := .int _ _) Try.isAgg24 (by rfl) (by exact HLp) (by rfl) (by exact RFp)) ?_
  refine al_opd rfl rfl rfl (ao_fieldAddr fo_31_1 rfl) ?_
  refine al_opd rfl rfl rfl (ao_load (v := .int _ _) Try.isAgg24 (by rfl) (by exact HLp) (by rfl) (by exact RFp)) ?_
  refine al_opd rfl rfl rfl (ao_lss rfl rfl) ?_
  refine al_opd rfl rfl rfl (ao_mv (v := .bool _) rfl) ?_
  refine al_cases (d := 10) rfl (fun h1_ => ?_) (fun h1_ => ?_)
  · try simp only [nrm] at h1_
    refine al_gno rfl rfl rfl rfl rfl ?_
    refine al_gno rfl rfl rfl rfl rfl ?_
    refine al_gno rfl rfl rfl rfl rfl ?_
    refine al_gno rfl rfl rfl rfl rfl ?_
    refine al_gno rfl rfl rfl rfl rfl ?_
    refine al_gno rfl rfl rfl rfl rfl ?_
    refine al_gnu rfl rfl rfl rfl ?_
    refine al_gnu rfl rfl rfl rfl ?_
    refine al_gnu rfl rfl rfl rfl ?_
    refine al_gnu rfl rfl rfl rfl ?_
    refine al_gnu rfl rfl rfl rfl ?_
    refine al_gno rfl rfl rfl rfl rfl ?_
    refine al_opd rfl rfl rfl (ao_pickT rfl (v := .bool _) rfl) ?_
    refine al_opd rfl rfl rfl (ao_as (v := .bool _) rfl) ?_
    refine al_nilT ?_
    refine aw_ret ?_
    refine ends1 rfl (rv_tmp (v := .bool _) rfl) ?_
    refine ⟨congrArg Value.bool ?_, by exact SMp⟩
    rw [Bool.eq_iff_iff]
    first | (simp only [befS, decide_eq_true_eq, true_iff, iff_true, Bool.false_eq_true, false_iff]; omega) | (simp [befS]; omega) | (simp_all [befS]; done)
  · try simp only [nrm] at h1_
    refine al_gyes rfl rfl rfl rfl rfl (ao_fieldAddr fo_31_1 rfl) ?_
    refine al_gyes rfl rfl rfl rfl rfl (ao_load (v := .int _ _) Try.isAgg24 (by rfl) (by exact HLp) (by rfl) (by exact RFp)) ?_
    refine al_gyes rfl rfl rfl rfl rfl (ao_fieldAddr fo_31_1 rfl) ?_
    refine al_gyes rfl rfl rfl rfl rfl (ao_load (v := .int _ _) Try.isAgg24 (by rfl) (by exact HLp) (by rfl) (by exact RFp)) ?_
    refine al_gyes rfl rfl rfl rfl rfl (ao_eql rfl rfl) ?_
    refine al_gyes rfl rfl rfl rfl rfl (ao_mv (v := .bool _) rfl) ?_
    refine al_cases (d := 16) rfl (fun h2_ => ?_) (fun h2_ => ?_)
    · try simp only [nrm] at h2_
      refine al_gyes rfl rfl rfl rfl rfl (ao_fieldAddr fo_31_0 rfl) ?_
      refine al_gyes rfl rfl rfl rfl rfl (ao_load (v := .int _ _) Try.isAgg24 (by rfl) (by exact HLp) (by rfl) (by exact RFp)) ?_
      refine al_gyes rfl rfl rfl rfl rfl (ao_fieldAddr fo_31_0 rfl) ?_
      refine al_gyes rfl rfl rfl rfl rfl (ao_load (v := .int _ _) Try.isAgg24 (by rfl) (by exact HLp) (by rfl) (by exact RFp)) ?_
      refine al_gyes rfl rfl rfl rfl rfl (ao_lss rfl rfl) ?_
      refine al_gyes rfl rfl rfl rfl rfl (ao_pickT rfl (v := .bool _) rfl) ?_
      refine al_opd rfl rfl rfl (ao_pickF rfl (v := .bool _) rfl) ?_
      refine al_opd rfl rfl rfl (ao_as (v := .bool _) rfl) ?_
      refine al_nilT ?_
      refine aw_ret ?_
      refine ends1 rfl (rv_tmp (v := .bool _) rfl) ?_
      refine ⟨congrArg Value.bool ?_, by exact SMp⟩
      rw [Bool.eq_iff_iff]
      first | (simp only [befS, decide_eq_true_eq, true_iff, iff_true, Bool.false_eq_true, false_iff]; omega) | (simp [befS]; omega) | (simp_all [befS]; done)
    · try simp only [nrm] at h2_
      refine al_gno rfl rfl rfl rfl rfl ?_
      refine al_gno rfl rfl rfl rfl rfl ?_
      refine al_gno rfl rfl rfl rfl rfl ?_
      refine al_gno rfl rfl rfl rfl rfl ?_
      refine al_gno rfl rfl rfl rfl rfl ?_
      refine al_gyes rfl rfl rfl rfl rfl (ao_pickF rfl (v := .bool _) rfl) ?_
      refine al_opd rfl rfl rfl (ao_pickF rfl (v := .bool _) rfl) ?_
      refine al_opd rfl rfl rfl (ao_as (v := .bool _) rfl) ?_
      refine al_nilT ?_
      refine aw_ret ?_
      refine ends1 rfl (rv_tmp (v := .bool _) rfl) ?_
      refine ⟨congrArg Value.bool ?_, by exact SMp⟩
      rw [Bool.eq_iff_iff]
      first | (simp only [befS, decide_eq_true_eq, true_iff, iff_true, Bool.false_eq_true, false_iff]; omega) | (simp [befS]; omega) | (simp_all [befS]; done)

-- slices.DeleteFunc[[]impl.Spot,impl.Spot]
theorem delF_c {fnum : Nat} {fs cs : Array Value} {l : List Spot} {p : Spot → Bool} {lb : Nat} {H : AHeap} (hfn : ∀ (args : Array Value) (w : World), (callFunc fnum args).run Try.prog w = .ok (.enter fnum args) w) (hcall : ∀ (G : AHeap) s, s ∈ l → (∀ b, b < H.next → b ≠ lb → G.blk b = H.blk b) → ACd Try.prog fnum (fs.toList ++ [.agg #[.int .i8 s.x, .int .i8 s.y]] ++ cs.toList) G (.bool (p s)) G) (hk : H.blk lb = some (.cells (fl spot l) 2)) (hl : l.length ≤ 1000) : ACd Try.prog 33 [.slice (some ⟨lb, 0, none⟩) l.length (l.length + 1), .func (.func fnum) fs cs] H (.slice (some ⟨lb, 0, none⟩) (keepL p l).length ((keepL p l).length + 1)) (H.set lb (.cells (fl spot (delL p l)) 2)) := by
  have hltb := AHeap.lt hk
  obtain ⟨ri, hri⟩ := exists_first (fun j => ∃ s, l[j]? = some s ∧ p s = true) l.length
  refine ac_gc1s (fun ρ h => vr_sl h (Nat.le_succ _) (fun e => by omega)) (vrl_fl spot_plain _) ⟨_, hk⟩ (ac_body Try.func33 rfl Try.ntmps33 rfl ?_)
  refine aw_seq ?_
  refine aw_region ?_
  first | refine al_opd rfl rfl rfl (ao_as (v := .slice _ _ _) rfl) ?_ | refine al_opd rfl rfl rfl (ao_as (v := .func (.func fnum) fs cs) rfl) ?_ | refine al_opd rfl rfl rfl (ao_as (v := .slice (some ⟨lb, 0, none⟩) l.length (l.length + 1)) rfl) ?_
  refine al_nilT ?_
  refine aw_seq ?_
  refine aw_region ?_
  first | refine al_opd rfl rfl rfl (ao_mv (v := .slice _ _ _) rfl) ?_ | refine al_opd rfl rfl rfl (ao_mv (v := .func (.func fnum) fs cs) rfl) ?_ | refine al_opd rfl rfl rfl (ao_mv (v := .slice (some ⟨lb, 0, none⟩) l.length (l.length + 1)) rfl) ?_
  first | refine al_opd rfl rfl rfl (ao_mv (v := .func _ _ _) rfl) ?_ | refine al_opd rfl rfl rfl (ao_mv (v := .func (.func fnum) fs cs) rfl) ?_ | refine al_opd rfl rfl rfl (ao_mv (v := .slice (some ⟨lb, 0, none⟩) l.length (l.length + 1)) rfl) ?_
  refine al_opd rfl rfl rfl (ao_calld (indexSp_c (l := l) (p := fun s => p s = true) (r := ri) hfn (fun i s h => ⟨p s, Iff.rfl, hcall H s (List.mem_of_getElem? h) (fun _ _ _ => rfl)⟩) (Sl.full spot_len hk rfl rfl rfl) (by omega) hri) Try.call64 rfl rfl) ?_
  refine al_opd rfl rfl rfl (ao_as (v := .int _ _) rfl) ?_
  refine al_nilT ?_
  refine aw_seq ?_
  refine aw_seq ?_
  refine aw_region ?_
  refine al_opd rfl rfl rfl (ao_mv (v := .int _ _) rfl) ?_
  refine al_opd rfl rfl rfl (ao_eql rfl rfl) ?_
  refine al_nilT ?_
  refine aw_cond rfl (fun h1_ => ?_) (fun h1_ => ?_)
  · try simp only [nrm] at h1_
    have hke : keepL p l = l := keep_none (first_no hri h1_)
    refine aw_seq ?_
    refine aw_region ?_
    first | refine al_opd rfl rfl rfl (ao_mv (v := .slice _ _ _) rfl) ?_ | refine al_opd rfl rfl rfl (ao_mv (v := .func (.func fnum) fs cs) rfl) ?_ | refine al_opd rfl rfl rfl (ao_mv (v := .slice (some ⟨lb, 0, none⟩) l.length (l.length + 1)) rfl) ?_
    first | refine al_opd rfl rfl rfl (ao_as (v := .slice _ _ _) rfl) ?_ | refine al_opd rfl rfl rfl (ao_as (v := .func (.func fnum) fs cs) rfl) ?_ | refine al_opd rfl rfl rfl (ao_as (v := .slice (some ⟨lb, 0, none⟩) l.length (l.length + 1)) rfl) ?_
    refine al_nilT ?_
    refine aw_ret ?_
    refine thenA_r ?_
    refine ends1 rfl (rv_tmp (v := .slice _ _ _) rfl) ?_
    exact ⟨by rw [hke], by rw [del_none hke, set_self hk]; exact Same.refl _ _⟩
  · try simp only [nrm] at h1_
    obtain ⟨i0, hi0, rfl, hpi, hno⟩ : ∃ k : Nat, k < l.length ∧ ri = k ∧ (∃ s, l[k]? = some s ∧ p s = true) ∧ ∀ j : Nat, j < k → ¬ ∃ s, l[j]? = some s ∧ p s = true := first_yes hri h1_
    refine aw_skipT ?_
    refine aw_seq ?_
    refine aw_seq ?_
    refine aw_region ?_
    refine al_opd rfl rfl rfl (ao_mv (v := .int _ _) rfl) ?_
    first | refine al_opd rfl rfl rfl ((ao_add rfl rfl).val (nw_i64 BDp BDp)) ?_ | refine al_opd rfl rfl rfl (ao_add rfl rfl) ?_
    refine al_opd rfl rfl rfl (ao_as (v := .int _ _) rfl) ?_
    refine al_nilT ?_
    refine aw_block ?_
    refine aw_loop (fun (gk : Nat) (fr : AFr) (G : AHeap) => ∃ get : Nat → Value, fr = ⟨42, get⟩ ∧ (∃ (i j : Nat) (z : List Spot), Del p l z i j ∧ gk = l.length - j ∧ Same H.next (H.set lb (.cells (fl spot z) 2)) G ∧ H.next ≤ G.next ∧ get 0 = .slice (some ⟨lb, 0, none⟩) l.length (l.length + 1) ∧ get 1 = .func (.func fnum) fs cs ∧ get 5 = .int .i64 i ∧ get 6 = .int .i64 j)) (l.length - (i0 + 1)) ⟨_, rfl, ?_⟩ ?_
    · exact ⟨i0, i0 + 1, l, Del.start hi0 hno hpi, rfl, by rw [set_self hk]; exact Same.refl _ _, Nat.le_refl _, rfl, rfl, rfl, by rfl⟩
    · rintro gk fr G ⟨get, rfl, i, j, z, hD, rfl, hG, hnx, g0, g1, g5, g6⟩
      have hle := hD.le
      have hlz := hD.len
      have hij := hD.lt
      have hkz : G.blk lb = some (.cells (fl spot z) 2) := (hG lb hltb).trans (blk_set_same hk)
      have hsz : Sl G spot 2 (.slice (some ⟨lb, 0, none⟩) l.length (l.length + 1)) z := Sl.full spot_len hkz rfl rfl hlz.symm
      have hoth : ∀ b, b < H.next → b ≠ lb → G.blk b = H.blk b := fun b hb hne => (hG b hb).trans (blk_set_ne hne)
      refine aw_slot (d := 0) (v := .slice (some ⟨lb, 0, none⟩) l.length (l.length + 1)) (by first | assumption | rfl) ?_
      refine aw_slot (d := 1) (v := .func (.func fnum) fs cs) (by first | assumption | rfl) ?_
      refine aw_slot (d := 5) (v := .int .i64 i) (by first | assumption | rfl) ?_
      refine aw_slot (d := 6) (v := .int .i64 j) (by first | assumption | rfl) ?_
      refine aw_seq ?_
      refine aw_seq ?_
      refine aw_region ?_
      refine al_opd rfl rfl rfl (ao_mv (v := .int _ _) rfl) ?_
      first | refine al_opd rfl rfl rfl (ao_mv (v := .slice _ _ _) rfl) ?_ | refine al_opd rfl rfl rfl (ao_mv (v := .func (.func fnum) fs cs) rfl) ?_ | refine al_opd rfl rfl rfl (ao_mv (v := .slice (some ⟨lb, 0, none⟩) l.length (l.length + 1)) rfl) ?_
      first | refine al_opd rfl rfl rfl (ao_lenS Try.underlying35 (by rfl)) ?_ | refine al_opd rfl rfl rfl (ao_lenN Try.underlying35 (by rfl)) ?_ | refine al_opd rfl rfl rfl (ao_lenV Try.underlying35 rfl hsz) ?_
      refine al_opd rfl rfl rfl (ao_lss rfl rfl) ?_
      refine al_nilT ?_
      refine aw_cond rfl (fun h2_ => ?_) (fun h2_ => ?_)
      · try simp only [nrm] at h2_
        obtain ⟨x, hx⟩ := get_lt (show j < l.length by omega)
        have hxz := hD.get hx
        refine aw_skipT ?_
        refine aw_seq ?_
        refine aw_block ?_
        refine aw_seq ?_
        refine aw_region ?_
        first | refine al_opd rfl rfl rfl (ao_mv (v := .slice _ _ _) rfl) ?_ | refine al_opd rfl rfl rfl (ao_mv (v := .func (.func fnum) fs cs) rfl) ?_ | refine al_opd rfl rfl rfl (ao_mv (v := .slice (some ⟨lb, 0, none⟩) l.length (l.length + 1)) rfl) ?_
        refine al_opd rfl rfl rfl (ao_mv (v := .int _ _) rfl) ?_
        first | refine al_opd rfl rfl rfl (ao_indexAddrS Try.underlying35 Try.sizeOf31 rfl rfl (by exact IXp) (by exact IXp)) ?_ | refine al_opd rfl rfl rfl (ao_indexV Try.underlying35 Try.sizeOf31 rfl rfl hsz (by exact IXp) (by exact IXp)) ?_
        first | refine al_opd rfl rfl rfl (ao_loada Try.isAgg31 Try.sizeOf31 rfl (by exact HLp) (by rfl) (by exact RFp)) ?_ | refine al_opd rfl rfl rfl (ao_loadsV (A := #[.int _ _, .int _ _]) Try.isAgg31 Try.sizeOf31 hsz rfl hxz rfl (by decide)) ?_
        refine al_opd rfl rfl rfl (ao_alloca (zv31) (by rfl)) ?_
        first | refine al_opd rfl rfl rfl ((ao_storeL Try.sizeOf31 (by rfl) (by rfl) (by exact HLp) (by exact RFp) (by exact RFp) (by exact RFp)).to (SetR.eq (by exact SRp))) ?_ | refine al_opd rfl rfl rfl ((ao_storeP (ds := [.int _ _, .int _ _]) Try.sizeOf31 (by rfl) (by rfl) (by exact HLp) (by exact RFp) (by exact RFp) (by (rw [fl_len spot_len]; omega))).to (SetR.eq (by exact SRp))) ?_
        refine al_nilT ?_
        refine aw_seq ?_
        refine aw_region ?_
        first | refine al_opd rfl rfl rfl (ao_mv (v := .func _ _ _) rfl) ?_ | refine al_opd rfl rfl rfl (ao_mv (v := .func (.func fnum) fs cs) rfl) ?_ | refine al_opd rfl rfl rfl (ao_mv (v := .slice (some ⟨lb, 0, none⟩) l.length (l.length + 1)) rfl) ?_
        first | refine al_opd rfl rfl rfl (ao_loada Try.isAgg31 Try.sizeOf31 rfl (by exact HLp) (by rfl) (by exact RFp)) ?_ | refine al_opd rfl rfl rfl (ao_loadsV (A := #[.int _ _, .int _ _]) Try.isAgg31 Try.sizeOf31 hsz rfl hxz rfl (by decide)) ?_
        refine al_opd rfl rfl rfl (ao_callv hfn (by rfl) (by rfl) (hcall _ x (List.mem_of_getElem? hx) (fun b hb hne => (blk_push_ne (by omega)).trans (hoth b hb hne)))) ?_
        refine al_opd rfl rfl rfl (ao_not rfl) ?_
        refine al_nilT ?_
        refine aw_cond rfl (fun h3_ => ?_) (fun h3_ => ?_)
        · try simp only [nrm] at h3_
          have hpx : p x = false := by simpa using h3_
          refine aw_seq ?_
          refine aw_region ?_
          first | refine al_opd rfl rfl rfl (ao_mv (v := .slice _ _ _) rfl) ?_ | refine al_opd rfl rfl rfl (ao_mv (v := .func (.func fnum) fs cs) rfl) ?_ | refine al_opd rfl rfl rfl (ao_mv (v := .slice (some ⟨lb, 0, none⟩) l.length (l.length + 1)) rfl) ?_
          refine al_opd rfl rfl rfl (ao_mv (v := .int _ _) rfl) ?_
          first | refine al_opd rfl rfl rfl (ao_loada Try.isAgg31 Try.sizeOf31 rfl (by exact HLp) (by rfl) (by exact RFp)) ?_ | refine al_opd rfl rfl rfl (ao_loadsV (A := #[.int _ _, .int _ _]) Try.isAgg31 Try.sizeOf31 hsz rfl hxz rfl (by decide)) ?_
          first | refine al_opd rfl rfl rfl (ao_indexAddrS Try.underlying35 Try.sizeOf31 rfl rfl (by exact IXp) (by exact IXp)) ?_ | refine al_opd rfl rfl rfl (ao_indexV Try.underlying35 Try.sizeOf31 rfl rfl hsz (by exact IXp) (by exact IXp)) ?_
          first | refine al_opd rfl rfl rfl ((ao_storeL Try.sizeOf31 (by rfl) (by rfl) (by exact HLp) (by exact RFp) (by exact RFp) (by exact RFp)).to (SetR.eq (by exact SRp))) ?_ | refine al_opd rfl rfl rfl ((ao_storeP (ds := [.int _ _, .int _ _]) Try.sizeOf31 (by rfl) (by rfl) (by exact HLp) (by exact RFp) (by exact RFp) (by (rw [fl_len spot_len]; omega))).to (SetR.eq (by exact SRp))) ?_
          refine al_nilT ?_
          refine aw_region ?_
          refine al_opd rfl rfl rfl (ao_mv (v := .int _ _) rfl) ?_
          first | refine al_opd rfl rfl rfl ((ao_add rfl rfl).val (nw_i64 BDp BDp)) ?_ | refine al_opd rfl rfl rfl (ao_add rfl rfl) ?_
          refine al_opd rfl rfl rfl (ao_as (v := .int _ _) rfl) ?_
          refine al_nilB ?_
          refine thenA_n ?_
          refine aw_region ?_
          refine al_opd rfl rfl rfl (ao_mv (v := .int _ _) rfl) ?_
          first | refine al_opd rfl rfl rfl ((ao_add rfl rfl).val (nw_i64 BDp BDp)) ?_ | refine al_opd rfl rfl rfl (ao_add rfl rfl) ?_
          refine al_opd rfl rfl rfl (ao_as (v := .int _ _) rfl) ?_
          refine al_nilT ?_
          exact ⟨_, by omega, _, rfl, i + 1, j + 1, z.set i x, hD.keep hx hpx, rfl, by rw [← fl_setzL (y := x) spot_len (show i < z.length by omega)]; exact (Same.reset hk hltb hG).push (by exact LEp) _, by exact LEp, rfl, rfl, by rfl, by rfl⟩
        · try simp only [nrm] at h3_
          have hpx : p x = true := by simpa using h3_
          refine aw_skipB ?_
          refine thenA_n ?_
          refine aw_region ?_
          refine al_opd rfl rfl rfl (ao_mv (v := .int _ _) rfl) ?_
          first | refine al_opd rfl rfl rfl ((ao_add rfl rfl).val (nw_i64 BDp BDp)) ?_ | refine al_opd rfl rfl rfl (ao_add rfl rfl) ?_
          refine al_opd rfl rfl rfl (ao_as (v := .int _ _) rfl) ?_
          refine al_nilT ?_
          exact ⟨_, by omega, _, rfl, i, j + 1, z, hD.skip hx hpx, rfl, by exact SMp, by exact LEp, rfl, rfl, rfl, by rfl⟩
      · try simp only [nrm] at h2_
        obtain ⟨hik, hil, hfin⟩ := hD.fin (by omega)
        refine aw_exit ?_
        refine thenA_x ?_
        refine thenA_x ?_
        refine blockA_hit ?_
        refine thenA_n ?_
        refine aw_seq ?_
        refine aw_region ?_
        first | refine al_opd rfl rfl rfl (ao_mv (v := .slice _ _ _) rfl) ?_ | refine al_opd rfl rfl rfl (ao_mv (v := .func (.func fnum) fs cs) rfl) ?_ | refine al_opd rfl rfl rfl (ao_mv (v := .slice (some ⟨lb, 0, none⟩) l.length (l.length + 1)) rfl) ?_
        refine al_opd rfl rfl rfl (ao_mv (v := .int _ _) rfl) ?_
        refine al_opd rfl rfl rfl (ao_sliceLo Try.underlying35 Try.sizeOf31 (by rfl) (by rfl) (by first | rfl | omega) hkz (by rfl) (by omega)) ?_
        refine al_opd rfl rfl rfl ((ao_clear (el := spot) (z0 := z0S) (size := 2) Try.underlying35 Try.zeroValue31 (by rfl) (by rfl) (by rfl) (by rfl) (by rfl) (by exact HLp) (by (rw [fl_len spot_len]; omega))).to (SetR.eq (by exact SRp))) ?_
        refine al_nilT ?_
        refine aw_seq ?_
        refine aw_region ?_
        first | refine al_opd rfl rfl rfl (ao_mv (v := .slice _ _ _) rfl) ?_ | refine al_opd rfl rfl rfl (ao_mv (v := .func (.func fnum) fs cs) rfl) ?_ | refine al_opd rfl rfl rfl (ao_mv (v := .slice (some ⟨lb, 0, none⟩) l.length (l.length + 1)) rfl) ?_
        refine al_opd rfl rfl rfl (ao_mv (v := .int _ _) rfl) ?_
        refine al_opd rfl rfl rfl (ao_sliceHi Try.underlying35 Try.sizeOf31 (by rfl) (by rfl) (by first | rfl | omega) (by exact HLp) (by rfl) (by omega)) ?_
        first | refine al_opd rfl rfl rfl (ao_as (v := .slice _ _ _) rfl) ?_ | refine al_opd rfl rfl rfl (ao_as (v := .func (.func fnum) fs cs) rfl) ?_ | refine al_opd rfl rfl rfl (ao_as (v := .slice (some ⟨lb, 0, none⟩) l.length (l.length + 1)) rfl) ?_
        refine al_nilT ?_
        refine aw_ret ?_
        refine ends1 rfl (rv_tmp (v := .slice _ _ _) rfl) ?_
        exact ⟨by rw [← hik], by rw [← hfin]; exact Same.reset hk hltb hG⟩

-- slices.MinFunc[[]impl.Spot,impl.Spot]
theorem minF_c {v : Value} {l : List Spot} {H : AHeap} (hv : Sl H spot 2 v l) (h0 : 0 < l.length) (hl : l.length ≤ 1000) (hws : ∀ s ∈ l, wfSpot s) : ACd Try.prog 36 [v, .func (.func 37) #[] #[]] H (.agg #[.int .i8 (headMin l ⟨-1, 0⟩).x, .int .i8 (headMin l ⟨-1, 0⟩).y]) (H) := by
  obtain ⟨y0, h00⟩ := get_lt h0
  have hs0 : Sl (H.push (.cells [.int .i8 0, .int .i8 0] 1)) spot 2 v l := hv.mono (by exact SMp)
  have h1m : headMin (l.take 1) ⟨-1, 0⟩ = y0 := headMin_one h00
  refine ac_gc0 (fun β => VR.plainT β (by first | rfl | simp [plainT, plainV, plain1])) (ac_body Try.func36 rfl Try.ntmps36 rfl ?_)
  refine aw_seq ?_
  refine aw_region ?_
  refine al_opd rfl rfl rfl (ao_alloca (zv31) (by rfl)) ?_
  refine al_nilT ?_
  refine aw_seq ?_
  refine aw_seq ?_
  refine aw_region ?_
  first | refine al_opd rfl rfl rfl (ao_mv (v := .slice _ _ _) rfl) ?_ | refine al_opd rfl rfl rfl (ao_mv (v := v) rfl) ?_ | refine al_opd rfl rfl rfl (ao_mv (v := .func (.func 37) #[] #[]) rfl) ?_
  first | refine al_opd rfl rfl rfl (ao_lenS Try.underlying35 (by rfl)) ?_ | refine al_opd rfl rfl rfl (ao_lenN Try.underlying35 (by rfl)) ?_ | refine al_opd rfl rfl rfl (ao_lenV Try.underlying35 rfl hs0) ?_ | refine al_opd rfl rfl rfl (ao_lenV Try.underlying35 rfl hs1) ?_
  refine al_opd rfl rfl rfl (ao_lss rfl rfl) ?_
  refine al_nilT ?_
  refine aw_cond rfl (fun h1_ => ?_) (fun h1_ => ?_)
  · try simp only [nrm] at h1_
    first | done | omega | (exfalso; revert h1_; simp; (first | done | omega))
  try simp only [nrm] at h1_
  refine aw_skipT ?_
  refine aw_seq ?_
  refine aw_region ?_
  first | refine al_opd rfl rfl rfl (ao_mv (v := .slice _ _ _) rfl) ?_ | refine al_opd rfl rfl rfl (ao_mv (v := v) rfl) ?_ | refine al_opd rfl rfl rfl (ao_mv (v := .func (.func 37) #[] #[]) rfl) ?_
  first | refine al_opd rfl rfl rfl (ao_indexAddrS Try.underlying35 Try.sizeOf31 rfl rfl (by exact IXp) (by exact IXp)) ?_ | refine al_opd rfl rfl rfl (ao_indexV Try.underlying35 Try.sizeOf31 rfl rfl hs0 (by exact IXp) (by exact IXp)) ?_ | refine al_opd rfl rfl rfl (ao_indexV Try.underlying35 Try.sizeOf31 rfl rfl hs1 (by exact IXp) (by exact IXp)) ?_
  first | refine al_opd rfl rfl rfl (ao_loada Try.isAgg31 Try.sizeOf31 rfl (by exact HLp) (by rfl) (by exact RFp)) ?_ | refine al_opd rfl rfl rfl (ao_loadsV (A := #[.int _ _, .int _ _]) Try.isAgg31 Try.sizeOf31 hs0 rfl h00 rfl (by decide)) ?_ | refine al_opd rfl rfl rfl (ao_loadsV (A := #[.int _ _, .int _ _]) Try.isAgg31 Try.sizeOf31 hs0 rfl hy rfl (by decide)) ?_ | refine al_opd rfl rfl rfl (ao_loadsV (A := #[.int _ _, .int _ _]) Try.isAgg31 Try.sizeOf31 hs1 rfl h00 rfl (by decide)) ?_ | refine al_opd rfl rfl rfl (ao_loadsV (A := #[.int _ _, .int _ _]) Try.isAgg31 Try.sizeOf31 hs1 rfl hy rfl (by decide)) ?_
  refine al_opd rfl rfl rfl (ao_alloca (zv31) (by rfl)) ?_
  first | refine al_opd rfl rfl rfl ((ao_storeL Try.sizeOf31 (by rfl) (by rfl) (by exact HLp) (by exact RFp) (by exact RFp) (by exact RFp)).to (SetR.eq (by exact SRp))) ?_ | refine al_opd rfl rfl rfl ((ao_storeP (ds := [.int _ _, .int _ _]) Try.sizeOf31 (by rfl) (by rfl) (by exact HLp) (by exact RFp) (by exact RFp) (by exact LTp)).to (SetR.eq (by exact SRp))) ?_
  refine al_nilT ?_
  refine aw_seq ?_
  refine aw_seq ?_
  refine aw_region ?_
  refine al_opd rfl rfl rfl (ao_as (v := .int _ _) rfl) ?_
  refine al_nilT ?_
  refine aw_block ?_
  refine aw_loop (fun (gk : Nat) (fr : AFr) (G : AHeap) => ∃ get : Nat → Value, fr = ⟨33, get⟩ ∧ (∃ i : Nat, 1 ≤ i ∧ i ≤ l.length ∧ gk = l.length - i ∧ Same H.next H G ∧ (∃ q, G.blk H.next = some (.cells (spot q) 1)) ∧ G.blk (H.next + 1) = some (.cells (spot (headMin (l.take i) ⟨-1, 0⟩)) 1) ∧ H.next + 2 ≤ G.next ∧ get 0 = v ∧ get 1 = .func (.func 37) #[] #[] ∧ get 4 = .pointer (some ⟨H.next, 0, none⟩) ∧ get 5 = .pointer (some ⟨H.next + 1, 0, none⟩) ∧ get 6 = .int .i64 i)) (l.length - 1) ⟨_, rfl, ?_⟩ ?_
  · refine ⟨1, Nat.le_refl _, by omega, rfl, by exact SMp, ⟨⟨0, 0⟩, by exact HLp⟩, by rw [h1m]; exact (by exact HLp), ?_, rfl, rfl, rfl, rfl, rfl⟩ <;> exact LNp
  · rintro gk fr G ⟨get, rfl, i, h1i, hi, rfl, hG, ⟨q, hbq⟩, hbm, hnx, g0, g1, g4, g5, g6⟩
    have hs1 : Sl G spot 2 v l := hv.mono hG
    have hwm := headMin_wf (d := ⟨-1, 0⟩) hws h1i h0
    refine aw_slot (d := 0) (v := v) (by first | assumption | rfl) ?_
    refine aw_slot (d := 1) (v := .func (.func 37) #[] #[]) (by first | assumption | rfl) ?_
    refine aw_slot (d := 4) (v := .pointer (some ⟨H.next, 0, none⟩)) (by first | assumption | rfl) ?_
    refine aw_slot (d := 5) (v := .pointer (some ⟨H.next + 1, 0, none⟩)) (by first | assumption | rfl) ?_
    refine aw_slot (d := 6) (v := .int .i64 i) (by first | assumption | rfl) ?_
    refine aw_seq ?_
    refine aw_seq ?_
    refine aw_region ?_
    refine al_opd rfl rfl rfl (ao_mv (v := .int _ _) rfl) ?_
    first | refine al_opd rfl rfl rfl (ao_mv (v := .slice _ _ _) rfl) ?_ | refine al_opd rfl rfl rfl (ao_mv (v := v) rfl) ?_ | refine al_opd rfl rfl rfl (ao_mv (v := .func (.func 37) #[] #[]) rfl) ?_
    first | refine al_opd rfl rfl rfl (ao_lenS Try.underlying35 (by rfl)) ?_ | refine al_opd rfl rfl rfl (ao_lenN Try.underlying35 (by rfl)) ?_ | refine al_opd rfl rfl rfl (ao_lenV Try.underlying35 rfl hs0) ?_ | refine al_opd rfl rfl rfl (ao_lenV Try.underlying35 rfl hs1) ?_
    refine al_opd rfl rfl rfl (ao_lss rfl rfl) ?_
    refine al_nilT ?_
    refine aw_cond rfl (fun h2_ => ?_) (fun h2_ => ?_)
    · try simp only [nrm] at h2_
      obtain ⟨y, hy⟩ := get_lt (show i < l.length by omega)
      have hwy := hws y (List.mem_of_getElem? hy)
      refine aw_skipT ?_
      refine aw_seq ?_
      refine aw_block ?_
      refine aw_seq ?_
      refine aw_draw (m := 8) mo (by kernel_rfl) rfl (fun _ _ _ h => h) ?_
      first | refine dw_opd rfl rfl rfl (ao_mv (v := .func _ _ _) rfl) ?_ | refine dw_opd rfl rfl rfl (ao_mv (v := v) rfl) ?_ | refine dw_opd rfl rfl rfl (ao_mv (v := .func (.func 37) #[] #[]) rfl) ?_
      first | refine dw_opd rfl rfl rfl (ao_mv (v := .slice _ _ _) rfl) ?_ | refine dw_opd rfl rfl rfl (ao_mv (v := v) rfl) ?_ | refine dw_opd rfl rfl rfl (ao_mv (v := .func (.func 37) #[] #[]) rfl) ?_
      refine dw_opd rfl rfl rfl (ao_mv (v := .int _ _) rfl) ?_
      first | refine dw_opd rfl rfl rfl (ao_indexAddrS Try.underlying35 Try.sizeOf31 rfl rfl (by exact IXp) (by exact IXp)) ?_ | refine dw_opd rfl rfl rfl (ao_indexV Try.underlying35 Try.sizeOf31 rfl rfl hs0 (by exact IXp) (by exact IXp)) ?_ | refine dw_opd rfl rfl rfl (ao_indexV Try.underlying35 Try.sizeOf31 rfl rfl hs1 (by exact IXp) (by exact IXp)) ?_
      first | refine dw_opd rfl rfl rfl (ao_loada Try.isAgg31 Try.sizeOf31 rfl (by exact HLp) (by rfl) (by exact RFp)) ?_ | refine dw_opd rfl rfl rfl (ao_loadsV (A := #[.int _ _, .int _ _]) Try.isAgg31 Try.sizeOf31 hs0 rfl h00 rfl (by decide)) ?_ | refine dw_opd rfl rfl rfl (ao_loadsV (A := #[.int _ _, .int _ _]) Try.isAgg31 Try.sizeOf31 hs0 rfl hy rfl (by decide)) ?_ | refine dw_opd rfl rfl rfl (ao_loadsV (A := #[.int _ _, .int _ _]) Try.isAgg31 Try.sizeOf31 hs1 rfl h00 rfl (by decide)) ?_ | refine dw_opd rfl rfl rfl (ao_loadsV (A := #[.int _ _, .int _ _]) Try.isAgg31 Try.sizeOf31 hs1 rfl hy rfl (by decide)) ?_
      first | refine dw_opd rfl rfl rfl (ao_loada Try.isAgg31 Try.sizeOf31 rfl (by exact HLp) (by rfl) (by exact RFp)) ?_ | refine dw_opd rfl rfl rfl (ao_loadsV (A := #[.int _ _, .int _ _]) Try.isAgg31 Try.sizeOf31 hs0 rfl h00 rfl (by decide)) ?_ | refine dw_opd rfl rfl rfl (ao_loadsV (A := #[.int _ _, .int _ _]) Try.isAgg31 Try.sizeOf31 hs0 rfl hy rfl (by decide)) ?_ | refine dw_opd rfl rfl rfl (ao_loadsV (A := #[.int _ _, .int _ _]) Try.isAgg31 Try.sizeOf31 hs1 rfl h00 rfl (by decide)) ?_ | refine dw_opd rfl rfl rfl (ao_loadsV (A := #[.int _ _, .int _ _]) Try.isAgg31 Try.sizeOf31 hs1 rfl hy rfl (by decide)) ?_
      refine dw_opd rfl rfl rfl (ao_callv Try.call37 (by rfl) (by rfl) (cmpSpots_c (a := y) (b := (headMin (l.take i) ⟨-1, 0⟩)) hwy hwm)) ?_
      refine dw_opd rfl rfl rfl (ao_lss rfl rfl) ?_
      refine dw_end ?_
      refine al_nilT ?_
      refine aw_cond rfl (fun h3_ => ?_) (fun h3_ => ?_)
      · try simp only [nrm] at h3_
        refine aw_region ?_
        first | refine al_opd rfl rfl rfl (ao_mv (v := .slice _ _ _) rfl) ?_ | refine al_opd rfl rfl rfl (ao_mv (v := v) rfl) ?_ | refine al_opd rfl rfl rfl (ao_mv (v := .func (.func 37) #[] #[]) rfl) ?_
        refine al_opd rfl rfl rfl (ao_mv (v := .int _ _) rfl) ?_
        first | refine al_opd rfl rfl rfl (ao_indexAddrS Try.underlying35 Try.sizeOf31 rfl rfl (by exact IXp) (by exact IXp)) ?_ | refine al_opd rfl rfl rfl (ao_indexV Try.underlying35 Try.sizeOf31 rfl rfl hs0 (by exact IXp) (by exact IXp)) ?_ | refine al_opd rfl rfl rfl (ao_indexV Try.underlying35 Try.sizeOf31 rfl rfl hs1 (by exact IXp) (by exact IXp)) ?_
        first | refine al_opd rfl rfl rfl (ao_loada Try.isAgg31 Try.sizeOf31 rfl (by exact HLp) (by rfl) (by exact RFp)) ?_ | refine al_opd rfl rfl rfl (ao_loadsV (A := #[.int _ _, .int _ _]) Try.isAgg31 Try.sizeOf31 hs0 rfl h00 rfl (by decide)) ?_ | refine al_opd rfl rfl rfl (ao_loadsV (A := #[.int _ _, .int _ _]) Try.isAgg31 Try.sizeOf31 hs0 rfl hy rfl (by decide)) ?_ | refine al_opd rfl rfl rfl (ao_loadsV (A := #[.int _ _, .int _ _]) Try.isAgg31 Try.sizeOf31 hs1 rfl h00 rfl (by decide)) ?_ | refine al_opd rfl rfl rfl (ao_loadsV (A := #[.int _ _, .int _ _]) Try.isAgg31 Try.sizeOf31 hs1 rfl hy rfl (by decide)) ?_
        first | refine al_opd rfl rfl rfl ((ao_storeL Try.sizeOf31 (by rfl) (by rfl) (by exact HLp) (by exact RFp) (by exact RFp) (by exact RFp)).to (SetR.eq (by exact SRp))) ?_ | refine al_opd rfl rfl rfl ((ao_storeP (ds := [.int _ _, .int _ _]) Try.sizeOf31 (by rfl) (by rfl) (by exact HLp) (by exact RFp) (by exact RFp) (by exact LTp)).to (SetR.eq (by exact SRp))) ?_
        refine al_nilB ?_
        refine thenA_n ?_
        refine aw_region ?_
        refine al_opd rfl rfl rfl (ao_mv (v := .int _ _) rfl) ?_
        first | refine al_opd rfl rfl rfl ((ao_add rfl rfl).val (nw_i64 BDp BDp)) ?_ | refine al_opd rfl rfl rfl (ao_add rfl rfl) ?_
        refine al_opd rfl rfl rfl (ao_as (v := .int _ _) rfl) ?_
        refine al_nilT ?_
        refine ⟨_, ?_, _, rfl, i + 1, by omega, by omega, rfl, by exact SMp, ⟨q, by exact HLp⟩, by rw [headMin_step h1i hy, show minS (headMin (l.take i) ⟨-1, 0⟩) y = y from if_pos (cmpS_lt.mp h3_)]; exact (by exact HLp), ?_, rfl, rfl, rfl, rfl, by rfl⟩
        · omega
        · exact LNp
      · try simp only [nrm] at h3_
        refine aw_skipB ?_
        refine thenA_n ?_
        refine aw_region ?_
        refine al_opd rfl rfl rfl (ao_mv (v := .int _ _) rfl) ?_
        first | refine al_opd rfl rfl rfl ((ao_add rfl rfl).val (nw_i64 BDp BDp)) ?_ | refine al_opd rfl rfl rfl (ao_add rfl rfl) ?_
        refine al_opd rfl rfl rfl (ao_as (v := .int _ _) rfl) ?_
        refine al_nilT ?_
        refine ⟨_, ?_, _, rfl, i + 1, by omega, by omega, rfl, by exact SMp, ⟨q, by exact HLp⟩, by rw [headMin_step h1i hy, show minS (headMin (l.take i) ⟨-1, 0⟩) y = (headMin (l.take i) ⟨-1, 0⟩) from if_neg (fun e => absurd (cmpS_lt.mpr e) (by omega))]; exact hbm, ?_, rfl, rfl, rfl, rfl, by rfl⟩
        · omega
        · exact LNp
    · try simp only [nrm] at h2_
      rw [List.take_of_length_le (show l.length ≤ i by omega)] at hbm
      refine aw_exit ?_
      refine thenA_x ?_
      refine thenA_x ?_
      refine blockA_hit ?_
      refine thenA_n ?_
      refine aw_seq ?_
      refine aw_region ?_
      first | refine al_opd rfl rfl rfl (ao_loada Try.isAgg31 Try.sizeOf31 rfl (by exact HLp) (by rfl) (by exact RFp)) ?_ | refine al_opd rfl rfl rfl (ao_loadsV (A := #[.int _ _, .int _ _]) Try.isAgg31 Try.sizeOf31 hs0 rfl h00 rfl (by decide)) ?_ | refine al_opd rfl rfl rfl (ao_loadsV (A := #[.int _ _, .int _ _]) Try.isAgg31 Try.sizeOf31 hs0 rfl hy rfl (by decide)) ?_ | refine al_opd rfl rfl rfl (ao_loadsV (A := #[.int _ _, .int _ _]) Try.isAgg31 Try.sizeOf31 hs1 rfl h00 rfl (by decide)) ?_ | refine al_opd rfl rfl rfl (ao_loadsV (A := #[.int _ _, .int _ _]) Try.isAgg31 Try.sizeOf31 hs1 rfl hy rfl (by decide)) ?_
      first | refine al_opd rfl rfl rfl ((ao_storeL Try.sizeOf31 (by rfl) (by rfl) (by exact HLp) (by exact RFp) (by exact RFp) (by exact RFp)).to (SetR.eq (by exact SRp))) ?_ | refine al_opd rfl rfl rfl ((ao_storeP (ds := [.int _ _, .int _ _]) Try.sizeOf31 (by rfl) (by rfl) (by exact HLp) (by exact RFp) (by exact RFp) (by exact LTp)).to (SetR.eq (by exact SRp))) ?_
      refine al_nilT ?_
      refine aw_ret ?_
      refine ends1 rfl (rv_cella Try.isAgg31 Try.sizeOf31 rfl (by exact HLp) (by rfl) (by exact RFp)) ?_
      exact ⟨rfl, by exact SMp⟩

-- impl.WayBetween$1
theorem wayB1_c {r : Room} {a b s : Spot} {u v : Int} {b1 b2 mb : Nat} {H : AHeap} (h1 : H.blk b1 = some (.cells [.map (some mb)] 1)) (h2 : H.blk b2 = some (.cells [.int .i8 a.x, .int .i8 a.y] 1)) (hm : H.blk mb = some (mapB (found r b))) (hu : mget (found r b) s = some u) (hv : mget (found r b) a = some v) (hb : isFree r b) : ACd Try.prog 35 [.agg #[.int .i8 s.x, .int .i8 s.y], .pointer (some ⟨b1, 0, none⟩), .pointer (some ⟨b2, 0, none⟩)] H (.bool (!candB r b a s)) (H) := by
  have hcv := cand_val hu hv
  have hvp := found_pos hb hv
  refine ac_gc0 (fun β => VR.plainT β (by first | rfl | simp [plainT, plainV, plain1])) (ac_body Try.func35 rfl Try.ntmps35 rfl ?_)
  refine aw_seq ?_
  refine aw_region ?_
  refine al_opd rfl rfl rfl (ao_boxa (by rfl)) ?_
  refine al_opd rfl rfl rfl (ao_as (v := .bool _) rfl) ?_
  refine al_nilT ?_
  refine aw_seq ?_
  refine aw_draw (m := 9) mo (by kernel_rfl) rfl (fun _ _ _ h => h) ?_
  refine dw_opd rfl rfl rfl (ao_load (v := .map _) Try.isAgg60 (by rfl) (by exact HLp) (by rfl) (by exact RFp)) ?_
  refine dw_opd rfl rfl rfl (ao_loada Try.isAgg31 Try.sizeOf31 rfl (by exact HLp) (by rfl) (by exact RFp)) ?_
  refine dw_opd rfl rfl rfl (ao_look1 (m := found r b) (k := s) (ok := true) (u := .int .i64 u) (ke := spV) (ve := ivV) Try.underlying60 keySpot_c (fun _ => rfl) Try.zeroValue2 (by rfl) (by rfl) (by rfl) (by exact HLp) (.inr ⟨u, hu, rfl, rfl⟩)) ?_
  refine dw_opd rfl rfl rfl (ao_load (v := .map _) Try.isAgg60 (by rfl) (by exact HLp) (by rfl) (by exact RFp)) ?_
  refine dw_opd rfl rfl rfl (ao_loada Try.isAgg31 Try.sizeOf31 rfl (by exact HLp) (by rfl) (by exact RFp)) ?_
  refine dw_opd rfl rfl rfl (ao_look1 (m := found r b) (k := a) (ok := true) (u := .int .i64 v) (ke := spV) (ve := ivV) Try.underlying60 keySpot_c (fun _ => rfl) Try.zeroValue2 (by rfl) (by rfl) (by rfl) (by exact HLp) (.inr ⟨v, hv, rfl, rfl⟩)) ?_
  first | refine dw_opd rfl rfl rfl ((ao_sub rfl rfl).val (nw_i64 BDp BDp)) ?_ | refine dw_opd rfl rfl rfl (ao_sub rfl rfl) ?_
  refine dw_opd rfl rfl rfl (ao_neq rfl rfl) ?_
  refine dw_opd rfl rfl rfl (ao_as (v := .bool _) rfl) ?_
  refine dw_end ?_
  refine al_nilT ?_
  refine aw_ret ?_
  refine ends1 rfl (rv_tmp (v := .bool _) rfl) ?_
  exact ⟨by rw [hcv], by exact SMp⟩

end Go.Proofs.Ytmafkbminigbcaa
