/- Contracts of the program's functions over abstract heaps. -/
import Derived.Test.YtkpimjhacjfgfaaText
import Derived.Test.YtkpimjhacjfgfaaRm
import Derived.Test.YtkpimjhacjfgfaaVr
namespace Go.Proofs.Ytkpimjhacjfgfaa
open Go Go.AW Go.Proofs
set_option linter.unusedVariables false
set_option linter.unusedSimpArgs false
set_option maxRecDepth 100000
set_option maxHeartbeats 2000000

-- (impl.Room).grid
theorem grid_c {fnum : Nat} {fs cs : Array Value} {r : Room} {sg : Spot → Int} {H : AHeap} (hfn : ∀ (args : Array Value) (w : World), (callFunc fnum args).run Try.prog w = .ok (.enter fnum args) w) (hcall : ∀ (G : AHeap) (x y : Nat), Same H.next H G → (x : Int) < r.w → (y : Int) < r.h → ACd Try.prog fnum (fs.toList ++ [.agg #[.int .i8 (x : Int), .int .i8 (y : Int)]] ++ cs.toList) G (.int .u8 (sg ⟨(x : Int), (y : Int)⟩)) G) (h10 : 0 ≤ r.w ∧ r.w ≤ 10 ∧ 0 ≤ r.h ∧ r.h ≤ 10) : ACd Try.prog 98 [.agg (roomC r).toArray, .func (.func fnum) fs cs] H (.string (strOf (textTo sg r.w.toNat r.h.toNat 0))) (H) := by
  refine ac_gc0 (fun β => VR.plainT β (by first | rfl | simp [plainT, plainV, plain1])) (ac_body Try.func98 rfl Try.ntmps98 rfl ?_)
  refine aw_seq ?_
  refine aw_region ?_
  refine al_opd rfl rfl rfl (ao_boxa (by rfl)) ?_
  first | refine al_opd rfl rfl rfl (ao_as (v := .string _) rfl) ?_ | refine al_opd rfl rfl rfl (ao_as (v := .func (.func fnum) fs cs) rfl) ?_
  refine al_nilT ?_
  refine aw_seq ?_
  refine aw_region ?_
  refine al_opd rfl rfl rfl (ao_lit0 Try.underlying76 Try.sizeOf5 Try.zeroValue5 (by rfl) (by rfl) rfl) ?_
  first | refine al_opd rfl rfl rfl (ao_as (v := .slice _ _ _) rfl) ?_ | refine al_opd rfl rfl rfl (ao_as (v := .func (.func fnum) fs cs) rfl) ?_
  refine al_nilT ?_
  refine aw_seq ?_
  refine aw_seq ?_
  refine aw_region ?_
  refine al_opd rfl rfl rfl (ao_fieldAddr fo_28_1 rfl) ?_
  refine al_opd rfl rfl rfl (ao_load (v := .int _ _) Try.isAgg22 (by rfl) (by ((repeat (first | exact blk_push_new _ _ | assumption | apply blk_push_old | apply blk_set_same | refine (blk_set_ne (by first | assumption | omega | (simp only [next_push, next_set, next_kill, ne_eq]; omega))).trans ?_ | refine (blk_kill_ne (by first | assumption | omega | (simp only [next_push, next_set, next_kill, ne_eq]; omega))).trans ?_)); (first | done | fail))) (by rfl) (by first | rfl | (simp; (first | done | fail)))) ?_
  refine al_opd rfl rfl rfl (ao_mv (v := .int _ _) rfl) ?_
  refine al_nilT ?_
  refine aw_block ?_
  refine aw_loop (fun (gk : Nat) (fr : AFr) (G : AHeap) => ∃ get : Nat → Value, fr = ⟨34, get⟩ ∧ (∃ (y n pb c : Nat), (y : Int) ≤ r.h ∧ gk = r.h.toNat - y ∧ Same H.next H G ∧ G.blk H.next = some (.cells (roomC r) 1) ∧ H.next + 1 ≤ pb ∧ pb < G.next ∧ G.blk pb = some (.cells (fl u8 (textTo sg r.w.toNat y 0)) 1) ∧ n = (textTo sg r.w.toNat y 0).length ∧ n ≤ c ∧ get 5 = .slice (some ⟨pb, 0, none⟩) n c ∧ get 11 = .int .i8 y ∧ get 10 = .int .i8 r.h ∧ get 1 = .func (.func fnum) fs cs ∧ get 2 = .pointer (some ⟨H.next, 0, none⟩))) (r.h.toNat) ⟨_, rfl, ?_⟩ ?_
  · refine ⟨0, 0, _, _, by omega, rfl, by (repeat (first | exact Same.refl _ _ | assumption | refine Same.push ?_ (by (first | exact Nat.le_refl _ | omega | (simp only [next_push, next_set, next_kill]; omega))) _ | refine Same.set ?_ (by (first | exact Nat.le_refl _ | omega | (simp only [next_push, next_set, next_kill]; omega))) _ | refine Same.kill ?_ (by (first | exact Nat.le_refl _ | omega | (simp only [next_push, next_set, next_kill]; omega))))), by ((repeat (first | exact blk_push_new _ _ | assumption | apply blk_push_old | apply blk_set_same | refine (blk_set_ne (by first | assumption | omega | (simp only [next_push, next_set, next_kill, ne_eq]; omega))).trans ?_ | refine (blk_kill_ne (by first | assumption | omega | (simp only [next_push, next_set, next_kill, ne_eq]; omega))).trans ?_)); (first | done | fail)), ?_, ?_, by ((repeat (first | exact blk_push_new _ _ | assumption | apply blk_push_old | apply blk_set_same | refine (blk_set_ne (by first | assumption | omega | (simp only [next_push, next_set, next_kill, ne_eq]; omega))).trans ?_ | refine (blk_kill_ne (by first | assumption | omega | (simp only [next_push, next_set, next_kill, ne_eq]; omega))).trans ?_)); (first | done | fail)), rfl, Nat.le_refl _, rfl, rfl, rfl, rfl, rfl⟩ <;> (first | omega | (simp only [next_push, next_set, next_kill]; omega))
  · rintro gk fr G ⟨get, rfl, y, n, pb, c, hy, rfl, hG, hbx, hpb, hlt, hkb, hn, hc, gs, gy, gh, k0, k1⟩
    refine aw_slot (d := 5) (v := .slice (some ⟨pb, 0, none⟩) n c) (by first | assumption | rfl) ?_
    refine aw_slot (d := 11) (v := .int .i8 y) (by first | assumption | rfl) ?_
    refine aw_slot (d := 10) (v := .int .i8 r.h) (by first | assumption | rfl) ?_
    refine aw_slot (d := 1) (v := .func (.func fnum) fs cs) (by first | assumption | rfl) ?_
    refine aw_slot (d := 2) (v := .pointer (some ⟨H.next, 0, none⟩)) (by first | assumption | rfl) ?_
    refine aw_seq ?_
    refine aw_region ?_
    refine al_opd rfl rfl rfl (ao_lss rfl rfl) ?_
    refine al_nilT ?_
    refine aw_seq ?_
    refine aw_cond rfl (fun h1_ => ?_) (fun h1_ => ?_)
    · try simp only [decide_eq_true_eq, decide_eq_false_iff_not, Bool.not_eq_true', Bool.not_eq_false', Bool.and_eq_true, Bool.or_eq_true, Bool.and_eq_false_iff, Bool.or_eq_false_iff, beq_iff_eq, bne_iff_ne, beq_eq_false_iff_ne, bne_eq_false_iff_eq, ne_eq, Decidable.not_not, Bool.decide_eq_true] at h1_
      refine aw_skipT ?_
      refine aw_seq ?_
      refine aw_block ?_
      refine aw_seq ?_
      refine aw_region ?_
      refine al_opd rfl rfl rfl (ao_mv (v := .int _ _) rfl) ?_
      refine al_opd rfl rfl rfl (ao_as (v := .int _ _) rfl) ?_
      refine al_nilT ?_
      refine aw_seq ?_
      refine aw_seq ?_
      refine aw_region ?_
      refine al_opd rfl rfl rfl (ao_fieldAddr fo_28_0 rfl) ?_
      refine al_opd rfl rfl rfl (ao_load (v := .int _ _) Try.isAgg22 (by rfl) (by ((repeat (first | exact blk_push_new _ _ | assumption | apply blk_push_old | apply blk_set_same | refine (blk_set_ne (by first | assumption | omega | (simp only [next_push, next_set, next_kill, ne_eq]; omega))).trans ?_ | refine (blk_kill_ne (by first | assumption | omega | (simp only [next_push, next_set, next_kill, ne_eq]; omega))).trans ?_)); (first | done | fail))) (by rfl) (by first | rfl | (simp; (first | done | fail)))) ?_
      refine al_opd rfl rfl rfl (ao_mv (v := .int _ _) rfl) ?_
      refine al_nilT ?_
      refine aw_block ?_
      refine aw_loop (fun (gk : Nat) (fr : AFr) (G : AHeap) => ∃ get : Nat → Value, fr = ⟨34, get⟩ ∧ (∃ (x n pb c : Nat), (x : Int) ≤ r.w ∧ gk = r.w.toNat - x ∧ Same H.next H G ∧ G.blk H.next = some (.cells (roomC r) 1) ∧ H.next + 1 ≤ pb ∧ pb < G.next ∧ G.blk pb = some (.cells (fl u8 (textTo sg r.w.toNat y x)) 1) ∧ n = (textTo sg r.w.toNat y x).length ∧ n ≤ c ∧ get 5 = .slice (some ⟨pb, 0, none⟩) n c ∧ get 11 = .int .i8 y ∧ get 10 = .int .i8 r.h ∧ get 1 = .func (.func fnum) fs cs ∧ get 2 = .pointer (some ⟨H.next, 0, none⟩) ∧ get 6 = .int .i8 y ∧ get 15 = .int .i8 r.w ∧ get 16 = .int .i8 x)) (r.w.toNat) ⟨_, rfl, ?_⟩ ?_
      · exact ⟨0, n, pb, c, by omega, rfl, hG, hbx, hpb, hlt, hkb, hn, hc, rfl, rfl, rfl, rfl, rfl, rfl, rfl, rfl⟩
      · rintro gk fr G ⟨get, rfl, x, n, pb, c, hx, rfl, hG, hbx, hpb, hlt, hkb, hn, hc, gs, gy, gh, k0, k1, k6, k15, k16⟩
        have hlen := textTo_bnd sg (w := r.w.toNat) (y := y) (x := x) (by omega) (by omega) (by omega)
        refine aw_slot (d := 5) (v := .slice (some ⟨pb, 0, none⟩) n c) (by first | assumption | rfl) ?_
        refine aw_slot (d := 11) (v := .int .i8 y) (by first | assumption | rfl) ?_
        refine aw_slot (d := 10) (v := .int .i8 r.h) (by first | assumption | rfl) ?_
        refine aw_slot (d := 1) (v := .func (.func fnum) fs cs) (by first | assumption | rfl) ?_
        refine aw_slot (d := 2) (v := .pointer (some ⟨H.next, 0, none⟩)) (by first | assumption | rfl) ?_
        refine aw_slot (d := 6) (v := .int .i8 y) (by first | assumption | rfl) ?_
        refine aw_slot (d := 15) (v := .int .i8 r.w) (by first | assumption | rfl) ?_
        refine aw_slot (d := 16) (v := .int .i8 x) (by first | assumption | rfl) ?_
        refine aw_seq ?_
        refine aw_region ?_
        refine al_opd rfl rfl rfl (ao_lss rfl rfl) ?_
        refine al_nilT ?_
        refine aw_seq ?_
        refine aw_cond rfl (fun h2_ => ?_) (fun h2_ => ?_)
        · try simp only [decide_eq_true_eq, decide_eq_false_iff_not, Bool.not_eq_true', Bool.not_eq_false', Bool.and_eq_true, Bool.or_eq_true, Bool.and_eq_false_iff, Bool.or_eq_false_iff, beq_iff_eq, bne_iff_ne, beq_eq_false_iff_ne, bne_eq_false_iff_eq, ne_eq, Decidable.not_not, Bool.decide_eq_true] at h2_
          refine aw_skipT ?_
          refine aw_seq ?_
          refine aw_block ?_
          refine aw_seq ?_
          refine aw_region ?_
          refine al_opd rfl rfl rfl (ao_mv (v := .int _ _) rfl) ?_
          refine al_opd rfl rfl rfl (ao_as (v := .int _ _) rfl) ?_
          refine al_nilT ?_
          refine aw_region ?_
          first | refine al_opd rfl rfl rfl (ao_mv (v := .slice _ _ _) rfl) ?_ | refine al_opd rfl rfl rfl (ao_mv (v := .func (.func fnum) fs cs) rfl) ?_
          first | refine al_opd rfl rfl rfl (ao_mv (v := .func _ _ _) rfl) ?_ | refine al_opd rfl rfl rfl (ao_mv (v := .func (.func fnum) fs cs) rfl) ?_
          refine al_opd rfl rfl rfl (ao_mv (v := .int _ _) rfl) ?_
          refine al_opd rfl rfl rfl (ao_mv (v := .int _ _) rfl) ?_
          refine al_opd rfl rfl rfl (ao_build (A := #[.int .i8 (x : Int), .int .i8 (y : Int)]) Try.zeroValue38 (by rfl) (by first | rfl | kernel_rfl) (by rfl) (by first | rfl | kernel_rfl)) ?_
          refine al_opd rfl rfl rfl (ao_callv hfn (by rfl) (by rfl) (hcall _ x y (by (repeat (first | exact Same.refl _ _ | assumption | refine Same.push ?_ (by (first | exact Nat.le_refl _ | omega | (simp only [next_push, next_set, next_kill]; omega))) _ | refine Same.set ?_ (by (first | exact Nat.le_refl _ | omega | (simp only [next_push, next_set, next_kill]; omega))) _ | refine Same.kill ?_ (by (first | exact Nat.le_refl _ | omega | (simp only [next_push, next_set, next_kill]; omega)))))) (by omega) (by omega))) ?_
          refine al_opd rfl rfl rfl (ao_lit1 (v := .int _ _) Try.underlying76 Try.sizeOf5 Try.zeroValue5 (by rfl) (by rfl) rfl rfl (by rfl) (by first | rfl | (simp; (first | done | fail)))) ?_
          refine al_opd rfl rfl rfl (ao_appC Try.underlying76 ⟨_, Try.underlying76⟩ elem5 (by rfl) (by rfl) (by ((repeat (first | exact blk_push_new _ _ | assumption | apply blk_push_old | apply blk_set_same | refine (blk_set_ne (by first | assumption | omega | (simp only [next_push, next_set, next_kill, ne_eq]; omega))).trans ?_ | refine (blk_kill_ne (by first | assumption | omega | (simp only [next_push, next_set, next_kill, ne_eq]; omega))).trans ?_)); (first | done | fail))) (by (rw [fl_len u8_len, ← hn]; omega)) (by first | exact src_all (by ((repeat (first | exact blk_push_new _ _ | assumption | apply blk_push_old | apply blk_set_same | refine (blk_set_ne (by first | assumption | omega | (simp only [next_push, next_set, next_kill, ne_eq]; omega))).trans ?_ | refine (blk_kill_ne (by first | assumption | omega | (simp only [next_push, next_set, next_kill, ne_eq]; omega))).trans ?_)); (first | done | fail))) (by rfl) (by rfl) | exact src_all (by ((repeat (first | exact blk_push_new _ _ | assumption | apply blk_push_old | apply blk_set_same | refine (blk_set_ne (by first | assumption | omega | (simp only [next_push, next_set, next_kill, ne_eq]; omega))).trans ?_ | refine (blk_kill_ne (by first | assumption | omega | (simp only [next_push, next_set, next_kill, ne_eq]; omega))).trans ?_)); (first | done | fail))) (by rfl) (by simp)) (by first | rfl | simp [isOne]) (by first | omega | decide) (by first | omega | decide)) ?_
          first | refine al_opd rfl rfl rfl (ao_as (v := .slice _ _ _) rfl) ?_ | refine al_opd rfl rfl rfl (ao_as (v := .func (.func fnum) fs cs) rfl) ?_
          refine al_nilB ?_
          refine thenA_n ?_
          refine aw_region ?_
          first | refine al_opd rfl rfl rfl ((ao_add rfl rfl).val (nw_i8 (by first | omega | decide) (by first | omega | decide))) ?_ | refine al_opd rfl rfl rfl (ao_add rfl rfl) ?_
          refine al_opd rfl rfl rfl (ao_mv (v := .int _ _) rfl) ?_
          refine al_nilT ?_
          refine ⟨_, ?_, _, rfl, x + 1, n + 1, _, _, by omega, rfl, by (repeat (first | exact Same.refl _ _ | assumption | refine Same.push ?_ (by (first | exact Nat.le_refl _ | omega | (simp only [next_push, next_set, next_kill]; omega))) _ | refine Same.set ?_ (by (first | exact Nat.le_refl _ | omega | (simp only [next_push, next_set, next_kill]; omega))) _ | refine Same.kill ?_ (by (first | exact Nat.le_refl _ | omega | (simp only [next_push, next_set, next_kill]; omega))))), by ((repeat (first | exact blk_push_new _ _ | assumption | apply blk_push_old | apply blk_set_same | refine (blk_set_ne (by first | assumption | omega | (simp only [next_push, next_set, next_kill, ne_eq]; omega))).trans ?_ | refine (blk_kill_ne (by first | assumption | omega | (simp only [next_push, next_set, next_kill, ne_eq]; omega))).trans ?_)); (first | done | fail)), ?_, ?_, by rw [textTo_succ, fl_snoc]; exact (by ((repeat (first | exact blk_push_new _ _ | assumption | apply blk_push_old | apply blk_set_same | refine (blk_set_ne (by first | assumption | omega | (simp only [next_push, next_set, next_kill, ne_eq]; omega))).trans ?_ | refine (blk_kill_ne (by first | assumption | omega | (simp only [next_push, next_set, next_kill, ne_eq]; omega))).trans ?_)); (first | done | fail))), by rw [textTo_succ, List.length_append, ← hn]; rfl, Nat.le_succ _, rfl, rfl, rfl, rfl, rfl, rfl, rfl, by rfl⟩
          · omega
          · (first | omega | (simp only [next_push, next_set, next_kill]; omega))
          · (first | omega | (simp only [next_push, next_set, next_kill]; omega))
        · try simp only [decide_eq_true_eq, decide_eq_false_iff_not, Bool.not_eq_true', Bool.not_eq_false', Bool.and_eq_true, Bool.or_eq_true, Bool.and_eq_false_iff, Bool.or_eq_false_iff, beq_iff_eq, bne_iff_ne, beq_eq_false_iff_ne, bne_eq_false_iff_eq, ne_eq, Decidable.not_not, Bool.decide_eq_true] at h2_
          refine aw_exit ?_
          refine thenA_x ?_
          refine thenA_x ?_
          refine blockA_hit ?_
          refine thenA_n ?_
          refine aw_region ?_
          first | refine al_opd rfl rfl rfl (ao_mv (v := .slice _ _ _) rfl) ?_ | refine al_opd rfl rfl rfl (ao_mv (v := .func (.func fnum) fs cs) rfl) ?_
          refine al_opd rfl rfl rfl (ao_lit1 (v := .int _ _) Try.underlying76 Try.sizeOf5 Try.zeroValue5 (by rfl) (by rfl) rfl rfl (by rfl) (by first | rfl | (simp; (first | done | fail)))) ?_
          refine al_opd rfl rfl rfl (ao_appC Try.underlying76 ⟨_, Try.underlying76⟩ elem5 (by rfl) (by rfl) (by ((repeat (first | exact blk_push_new _ _ | assumption | apply blk_push_old | apply blk_set_same | refine (blk_set_ne (by first | assumption | omega | (simp only [next_push, next_set, next_kill, ne_eq]; omega))).trans ?_ | refine (blk_kill_ne (by first | assumption | omega | (simp only [next_push, next_set, next_kill, ne_eq]; omega))).trans ?_)); (first | done | fail))) (by (rw [fl_len u8_len, ← hn]; omega)) (by first | exact src_all (by ((repeat (first | exact blk_push_new _ _ | assumption | apply blk_push_old | apply blk_set_same | refine (blk_set_ne (by first | assumption | omega | (simp only [next_push, next_set, next_kill, ne_eq]; omega))).trans ?_ | refine (blk_kill_ne (by first | assumption | omega | (simp only [next_push, next_set, next_kill, ne_eq]; omega))).trans ?_)); (first | done | fail))) (by rfl) (by rfl) | exact src_all (by ((repeat (first | exact blk_push_new _ _ | assumption | apply blk_push_old | apply blk_set_same | refine (blk_set_ne (by first | assumption | omega | (simp only [next_push, next_set, next_kill, ne_eq]; omega))).trans ?_ | refine (blk_kill_ne (by first | assumption | omega | (simp only [next_push, next_set, next_kill, ne_eq]; omega))).trans ?_)); (first | done | fail))) (by rfl) (by simp)) (by first | rfl | simp [isOne]) (by first | omega | decide) (by first | omega | decide)) ?_
          first | refine al_opd rfl rfl rfl (ao_as (v := .slice _ _ _) rfl) ?_ | refine al_opd rfl rfl rfl (ao_as (v := .func (.func fnum) fs cs) rfl) ?_
          refine al_nilB ?_
          refine thenA_n ?_
          refine aw_region ?_
          first | refine al_opd rfl rfl rfl ((ao_add rfl rfl).val (nw_i8 (by first | omega | decide) (by first | omega | decide))) ?_ | refine al_opd rfl rfl rfl (ao_add rfl rfl) ?_
          refine al_opd rfl rfl rfl (ao_mv (v := .int _ _) rfl) ?_
          refine al_nilT ?_
          have hxw : x = r.w.toNat := by omega
          subst hxw
          refine ⟨_, ?_, _, rfl, y + 1, n + 1, _, _, by omega, rfl, by (repeat (first | exact Same.refl _ _ | assumption | refine Same.push ?_ (by (first | exact Nat.le_refl _ | omega | (simp only [next_push, next_set, next_kill]; omega))) _ | refine Same.set ?_ (by (first | exact Nat.le_refl _ | omega | (simp only [next_push, next_set, next_kill]; omega))) _ | refine Same.kill ?_ (by (first | exact Nat.le_refl _ | omega | (simp only [next_push, next_set, next_kill]; omega))))), by ((repeat (first | exact blk_push_new _ _ | assumption | apply blk_push_old | apply blk_set_same | refine (blk_set_ne (by first | assumption | omega | (simp only [next_push, next_set, next_kill, ne_eq]; omega))).trans ?_ | refine (blk_kill_ne (by first | assumption | omega | (simp only [next_push, next_set, next_kill, ne_eq]; omega))).trans ?_)); (first | done | fail)), ?_, ?_, by rw [textTo_row, fl_snoc]; exact (by ((repeat (first | exact blk_push_new _ _ | assumption | apply blk_push_old | apply blk_set_same | refine (blk_set_ne (by first | assumption | omega | (simp only [next_push, next_set, next_kill, ne_eq]; omega))).trans ?_ | refine (blk_kill_ne (by first | assumption | omega | (simp only [next_push, next_set, next_kill, ne_eq]; omega))).trans ?_)); (first | done | fail))), by rw [textTo_row, List.length_append, ← hn]; rfl, Nat.le_succ _, rfl, by rfl, rfl, rfl, rfl⟩
          · omega
          · (first | omega | (simp only [next_push, next_set, next_kill]; omega))
          · (first | omega | (simp only [next_push, next_set, next_kill]; omega))
    · try simp only [decide_eq_true_eq, decide_eq_false_iff_not, Bool.not_eq_true', Bool.not_eq_false', Bool.and_eq_true, Bool.or_eq_true, Bool.and_eq_false_iff, Bool.or_eq_false_iff, beq_iff_eq, bne_iff_ne, beq_eq_false_iff_ne, bne_eq_false_iff_eq, ne_eq, Decidable.not_not, Bool.decide_eq_true] at h1_
      refine aw_exit ?_
      refine thenA_x ?_
      refine thenA_x ?_
      refine blockA_hit ?_
      refine thenA_n ?_
      refine aw_seq ?_
      refine aw_region ?_
      first | refine al_opd rfl rfl rfl (ao_mv (v := .slice _ _ _) rfl) ?_ | refine al_opd rfl rfl rfl (ao_mv (v := .func (.func fnum) fs cs) rfl) ?_
      refine al_opd rfl rfl rfl (ao_b2s (by rfl) (by rfl) (by rfl) rfl (Sl.full u8_len hkb rfl rfl hn)) ?_
      first | refine al_opd rfl rfl rfl (ao_as (v := .string _) rfl) ?_ | refine al_opd rfl rfl rfl (ao_as (v := .func (.func fnum) fs cs) rfl) ?_
      refine al_nilT ?_
      refine aw_ret ?_
      refine ends1 rfl (rv_tmp (v := .string _) rfl) ?_
      have hyy : y = r.h.toNat := by omega
      subst hyy
      exact ⟨rfl, by (repeat (first | exact Same.refl _ _ | assumption | refine Same.push ?_ (by (first | exact Nat.le_refl _ | omega | (simp only [next_push, next_set, next_kill]; omega))) _ | refine Same.set ?_ (by (first | exact Nat.le_refl _ | omega | (simp only [next_push, next_set, next_kill]; omega))) _ | refine Same.kill ?_ (by (first | exact Nat.le_refl _ | omega | (simp only [next_push, next_set, next_kill]; omega)))))⟩

-- impl.RoomText$1
theorem text1_c {r : Room} {s : Spot} {qb : Nat} {H : AHeap} (hq : H.blk qb = some (.cells (roomC r) 1)) (hw : wfRoom r) (hs : wfSpot s) : ACd Try.prog 99 [.agg #[.int .i8 s.x, .int .i8 s.y], .pointer (some ⟨qb, 0, none⟩)] H (.int .u8 (signB r s)) (H) := by
  refine ac_gc0 (fun β => VR.plainT β (by first | rfl | simp [plainT, plainV, plain1])) (ac_body Try.func99 rfl Try.ntmps99 rfl ?_)
  refine aw_seq ?_
  refine aw_region ?_
  refine al_opd rfl rfl rfl (ao_boxa (by rfl)) ?_
  refine al_opd rfl rfl rfl (ao_as (v := .int _ _) rfl) ?_
  refine al_nilT ?_
  refine aw_seq ?_
  refine aw_seq ?_
  refine aw_region ?_
  refine al_opd rfl rfl rfl (ao_loada Try.isAgg28 Try.sizeOf28 rfl (by ((repeat (first | exact blk_push_new _ _ | assumption | apply blk_push_old | apply blk_set_same | refine (blk_set_ne (by first | assumption | omega | (simp only [next_push, next_set, next_kill, ne_eq]; omega))).trans ?_ | refine (blk_kill_ne (by first | assumption | omega | (simp only [next_push, next_set, next_kill, ne_eq]; omega))).trans ?_)); (first | done | fail))) (by rfl) (by first | rfl | (simp; (first | done | fail)))) ?_
  refine al_opd rfl rfl rfl (ao_loada Try.isAgg38 Try.sizeOf38 rfl (by ((repeat (first | exact blk_push_new _ _ | assumption | apply blk_push_old | apply blk_set_same | refine (blk_set_ne (by first | assumption | omega | (simp only [next_push, next_set, next_kill, ne_eq]; omega))).trans ?_ | refine (blk_kill_ne (by first | assumption | omega | (simp only [next_push, next_set, next_kill, ne_eq]; omega))).trans ?_)); (first | done | fail))) (by rfl) (by first | rfl | (simp; (first | done | fail)))) ?_
  refine al_opd rfl rfl rfl (ao_calld (isFree_c (r := r) (s := s) (b := freeB r s) hw hs (freeB_iff r s)) Try.call94 rfl rfl) ?_
  refine al_nilT ?_
  refine aw_cond rfl (fun h1_ => ?_) (fun h1_ => ?_)
  · try simp only [decide_eq_true_eq, decide_eq_false_iff_not, Bool.not_eq_true', Bool.not_eq_false', Bool.and_eq_true, Bool.or_eq_true, Bool.and_eq_false_iff, Bool.or_eq_false_iff, beq_iff_eq, bne_iff_ne, beq_eq_false_iff_ne, bne_eq_false_iff_eq, ne_eq, Decidable.not_not, Bool.decide_eq_true] at h1_
    refine aw_seq ?_
    refine aw_region ?_
    refine al_opd rfl rfl rfl (ao_as (v := .int _ _) rfl) ?_
    refine al_nilT ?_
    refine aw_ret ?_
    refine thenA_r ?_
    refine ends1 rfl (rv_tmp (v := .int _ _) rfl) ?_
    exact ⟨by unfold signB; rw [if_pos h1_], by (repeat (first | exact Same.refl _ _ | assumption | refine Same.push ?_ (by (first | exact Nat.le_refl _ | omega | (simp only [next_push, next_set, next_kill]; omega))) _ | refine Same.set ?_ (by (first | exact Nat.le_refl _ | omega | (simp only [next_push, next_set, next_kill]; omega))) _ | refine Same.kill ?_ (by (first | exact Nat.le_refl _ | omega | (simp only [next_push, next_set, next_kill]; omega)))))⟩
  · try simp only [decide_eq_true_eq, decide_eq_false_iff_not, Bool.not_eq_true', Bool.not_eq_false', Bool.and_eq_true, Bool.or_eq_true, Bool.and_eq_false_iff, Bool.or_eq_false_iff, beq_iff_eq, bne_iff_ne, beq_eq_false_iff_ne, bne_eq_false_iff_eq, ne_eq, Decidable.not_not, Bool.decide_eq_true] at h1_
    refine aw_skipT ?_
    refine aw_seq ?_
    refine aw_region ?_
    refine al_opd rfl rfl rfl (ao_as (v := .int _ _) rfl) ?_
    refine al_nilT ?_
    refine aw_ret ?_
    refine ends1 rfl (rv_tmp (v := .int _ _) rfl) ?_
    exact ⟨by unfold signB; rw [if_neg (by simpa using h1_)], by (repeat (first | exact Same.refl _ _ | assumption | refine Same.push ?_ (by (first | exact Nat.le_refl _ | omega | (simp only [next_push, next_set, next_kill]; omega))) _ | refine Same.set ?_ (by (first | exact Nat.le_refl _ | omega | (simp only [next_push, next_set, next_kill]; omega))) _ | refine Same.kill ?_ (by (first | exact Nat.le_refl _ | omega | (simp only [next_push, next_set, next_kill]; omega)))))⟩

-- impl.RoomText
theorem implText1_c {r : Room} {H : AHeap} (hw : wfRoom r) (hr : okRoom r) : ACd Try.prog 45 [.agg (roomC r).toArray] H (.string (textR r)) (H) := by
  have ⟨r1, r2, r3, r4, r5⟩ := hr
  refine ac_gc0 (fun β => VR.plainT β (by first | rfl | simp [plainT, plainV, plain1])) (ac_body Try.func45 rfl Try.ntmps45 rfl ?_)
  refine aw_seq ?_
  refine aw_region ?_
  refine al_opd rfl rfl rfl (ao_boxa (by rfl)) ?_
  refine al_opd rfl rfl rfl (ao_as (v := .string _) rfl) ?_
  refine al_nilT ?_
  refine aw_seq ?_
  refine aw_seq ?_
  refine aw_region ?_
  refine al_opd rfl rfl rfl (ao_loada Try.isAgg28 Try.sizeOf28 rfl (by ((repeat (first | exact blk_push_new _ _ | assumption | apply blk_push_old | apply blk_set_same | refine (blk_set_ne (by first | assumption | omega | (simp only [next_push, next_set, next_kill, ne_eq]; omega))).trans ?_ | refine (blk_kill_ne (by first | assumption | omega | (simp only [next_push, next_set, next_kill, ne_eq]; omega))).trans ?_)); (first | done | fail))) (by rfl) (by first | rfl | (simp; (first | done | fail)))) ?_
  refine al_opd rfl rfl rfl (ao_calld (implValid_c (r := r) (b := true) hw (yes hr)) Try.call33 rfl rfl) ?_
  refine al_opd rfl rfl rfl (ao_not rfl) ?_
  refine al_nilT ?_
  refine aw_cond rfl (fun h1_ => ?_) (fun h1_ => ?_)
  · try simp only [decide_eq_true_eq, decide_eq_false_iff_not, Bool.not_eq_true', Bool.not_eq_false', Bool.and_eq_true, Bool.or_eq_true, Bool.and_eq_false_iff, Bool.or_eq_false_iff, beq_iff_eq, bne_iff_ne, beq_eq_false_iff_ne, bne_eq_false_iff_eq, ne_eq, Decidable.not_not, Bool.decide_eq_true] at h1_
    first | done | omega | (exfalso; revert h1_; simp; (first | done | omega))
  · try simp only [decide_eq_true_eq, decide_eq_false_iff_not, Bool.not_eq_true', Bool.not_eq_false', Bool.and_eq_true, Bool.or_eq_true, Bool.and_eq_false_iff, Bool.or_eq_false_iff, beq_iff_eq, bne_iff_ne, beq_eq_false_iff_ne, bne_eq_false_iff_eq, ne_eq, Decidable.not_not, Bool.decide_eq_true] at h1_
    refine aw_skipT ?_
    refine aw_seq ?_
    refine aw_region ?_
    refine al_opd rfl rfl rfl (ao_loada Try.isAgg28 Try.sizeOf28 rfl (by ((repeat (first | exact blk_push_new _ _ | assumption | apply blk_push_old | apply blk_set_same | refine (blk_set_ne (by first | assumption | omega | (simp only [next_push, next_set, next_kill, ne_eq]; omega))).trans ?_ | refine (blk_kill_ne (by first | assumption | omega | (simp only [next_push, next_set, next_kill, ne_eq]; omega))).trans ?_)); (first | done | fail))) (by rfl) (by first | rfl | (simp; (first | done | fail)))) ?_
    refine al_opd rfl rfl rfl (ao_makeFunc rfl rfl) ?_
    refine al_opd rfl rfl rfl (ao_calld (grid_c (fnum := 99) (fs := #[]) (cs := #[.pointer (some ⟨H.next, 0, none⟩)]) (r := r) (sg := signB r) Try.call99 (fun G x y hs hx hy => text1_c (r := r) (s := ⟨(x : Int), (y : Int)⟩) ((hs _ (by (first | exact Nat.le_refl _ | omega | (simp only [next_push, next_set, next_kill]; omega)))).trans (by ((repeat (first | exact blk_push_new _ _ | assumption | apply blk_push_old | apply blk_set_same | refine (blk_set_ne (by first | assumption | omega | (simp only [next_push, next_set, next_kill, ne_eq]; omega))).trans ?_ | refine (blk_kill_ne (by first | assumption | omega | (simp only [next_push, next_set, next_kill, ne_eq]; omega))).trans ?_)); (first | done | fail)))) hw ⟨⟨by show (-128 : Int) ≤ (x : Int); omega, by show (x : Int) ≤ 127; omega⟩, ⟨by show (-128 : Int) ≤ (y : Int); omega, by show (y : Int) ≤ 127; omega⟩⟩) (by omega)) Try.call98 rfl rfl) ?_
    refine al_opd rfl rfl rfl (ao_as (v := .string _) rfl) ?_
    refine al_nilT ?_
    refine aw_ret ?_
    refine ends1 rfl (rv_tmp (v := .string _) rfl) ?_
    exact ⟨by first | rfl | (simp [*]; (first | done | fail)), by (repeat (first | exact Same.refl _ _ | assumption | refine Same.push ?_ (by (first | exact Nat.le_refl _ | omega | (simp only [next_push, next_set, next_kill]; omega))) _ | refine Same.set ?_ (by (first | exact Nat.le_refl _ | omega | (simp only [next_push, next_set, next_kill]; omega))) _ | refine Same.kill ?_ (by (first | exact Nat.le_refl _ | omega | (simp only [next_push, next_set, next_kill]; omega)))))⟩

-- impl.RoomText
theorem implText0_c {r : Room} {H : AHeap} (hw : wfRoom r) (hr : ¬ okRoom r) : ACd Try.prog 45 [.agg (roomC r).toArray] H (.string ⟨#[]⟩) (H) := by
  refine ac_gc0 (fun β => VR.plainT β (by first | rfl | simp [plainT, plainV, plain1])) (ac_body Try.func45 rfl Try.ntmps45 rfl ?_)
  refine aw_seq ?_
  refine aw_region ?_
  refine al_opd rfl rfl rfl (ao_boxa (by rfl)) ?_
  refine al_opd rfl rfl rfl (ao_as (v := .string _) rfl) ?_
  refine al_nilT ?_
  refine aw_seq ?_
  refine aw_seq ?_
  refine aw_region ?_
  refine al_opd rfl rfl rfl (ao_loada Try.isAgg28 Try.sizeOf28 rfl (by ((repeat (first | exact blk_push_new _ _ | assumption | apply blk_push_old | apply blk_set_same | refine (blk_set_ne (by first | assumption | omega | (simp only [next_push, next_set, next_kill, ne_eq]; omega))).trans ?_ | refine (blk_kill_ne (by first | assumption | omega | (simp only [next_push, next_set, next_kill, ne_eq]; omega))).trans ?_)); (first | done | fail))) (by rfl) (by first | rfl | (simp; (first | done | fail)))) ?_
  refine al_opd rfl rfl rfl (ao_calld (implValid_c (r := r) (b := false) hw (no hr)) Try.call33 rfl rfl) ?_
  refine al_opd rfl rfl rfl (ao_not rfl) ?_
  refine al_nilT ?_
  refine aw_cond rfl (fun h1_ => ?_) (fun h1_ => ?_)
  · try simp only [decide_eq_true_eq, decide_eq_false_iff_not, Bool.not_eq_true', Bool.not_eq_false', Bool.and_eq_true, Bool.or_eq_true, Bool.and_eq_false_iff, Bool.or_eq_false_iff, beq_iff_eq, bne_iff_ne, beq_eq_false_iff_ne, bne_eq_false_iff_eq, ne_eq, Decidable.not_not, Bool.decide_eq_true] at h1_
    refine aw_seq ?_
    refine aw_region ?_
    refine al_opd rfl rfl rfl (ao_as (v := .string _) rfl) ?_
    refine al_nilT ?_
    refine aw_ret ?_
    refine thenA_r ?_
    refine ends1 rfl (rv_tmp (v := .string _) rfl) ?_
    exact ⟨by first | rfl | (simp [*]; (first | done | fail)), by (repeat (first | exact Same.refl _ _ | assumption | refine Same.push ?_ (by (first | exact Nat.le_refl _ | omega | (simp only [next_push, next_set, next_kill]; omega))) _ | refine Same.set ?_ (by (first | exact Nat.le_refl _ | omega | (simp only [next_push, next_set, next_kill]; omega))) _ | refine Same.kill ?_ (by (first | exact Nat.le_refl _ | omega | (simp only [next_push, next_set, next_kill]; omega)))))⟩
  · try simp only [decide_eq_true_eq, decide_eq_false_iff_not, Bool.not_eq_true', Bool.not_eq_false', Bool.and_eq_true, Bool.or_eq_true, Bool.and_eq_false_iff, Bool.or_eq_false_iff, beq_iff_eq, bne_iff_ne, beq_eq_false_iff_ne, bne_eq_false_iff_eq, ne_eq, Decidable.not_not, Bool.decide_eq_true] at h1_
    first | done | omega | (exfalso; revert h1_; simp; (first | done | omega))

-- spec.l01Text
theorem l01Text_c {r : Room} {pb0 : Nat} {H : AHeap} (hp0 : H.blk pb0 = some (.cells (roomC r) 1)) (hr : okRoom r) (hw : wfRoom r) : ACd Try.prog 97 [.pointer (some ⟨pb0, 0, none⟩)] H (.string (textR r)) (H) := by
  have ⟨r1, r2, r3, r4, r5⟩ := hr
  refine ac_gc0 (fun β => VR.plainT β (by first | rfl | simp [plainT, plainV, plain1])) (ac_body Try.func97 rfl Try.ntmps97 rfl ?_)
  refine aw_seq ?_
  refine aw_region ?_
  refine al_opd rfl rfl rfl (ao_as (v := .string _) rfl) ?_
  refine al_nilT ?_
  refine aw_seq ?_
  refine aw_region ?_
  refine al_opd rfl rfl rfl (ao_as (v := .string _) rfl) ?_
  refine al_nilT ?_
  refine aw_seq ?_
  refine aw_seq ?_
  refine aw_region ?_
  refine al_opd rfl rfl rfl (ao_as (v := .int _ _) rfl) ?_
  refine al_nilT ?_
  refine aw_block ?_
  refine aw_loop (fun (gk : Nat) (fr : AFr) (G : AHeap) => ∃ get : Nat → Value, fr = ⟨34, get⟩ ∧ (∃ y : Nat, (y : Int) ≤ r.h ∧ gk = r.h.toNat - y ∧ H = G ∧ get 0 = .pointer (some ⟨pb0, 0, none⟩) ∧ get 3 = .string (strOf (textTo (signB r) r.w.toNat y 0)) ∧ get 4 = .int .i8 y)) (r.h.toNat) ⟨_, rfl, ?_⟩ ?_
  · exact ⟨0, by omega, rfl, rfl, rfl, rfl, rfl⟩
  · rintro gk fr G ⟨get, rfl, y, hy, rfl, rfl, g0, g3, g4⟩
    refine aw_slot (d := 0) (v := .pointer (some ⟨pb0, 0, none⟩)) (by first | assumption | rfl) ?_
    refine aw_slot (d := 3) (v := .string (strOf (textTo (signB r) r.w.toNat y 0))) (by first | assumption | rfl) ?_
    refine aw_slot (d := 4) (v := .int .i8 y) (by first | assumption | rfl) ?_
    refine aw_seq ?_
    refine aw_seq ?_
    refine aw_region ?_
    refine al_opd rfl rfl rfl (ao_mv (v := .int _ _) rfl) ?_
    refine al_opd rfl rfl rfl (ao_mv (v := .pointer _) rfl) ?_
    refine al_opd rfl rfl rfl (ao_nilCheck rfl) ?_
    refine al_opd rfl rfl rfl (ao_fieldAddr fo_28_1 rfl) ?_
    refine al_opd rfl rfl rfl (ao_load (v := .int _ _) Try.isAgg22 (by rfl) (by ((repeat (first | exact blk_push_new _ _ | assumption | apply blk_push_old | apply blk_set_same | refine (blk_set_ne (by first | assumption | omega | (simp only [next_push, next_set, next_kill, ne_eq]; omega))).trans ?_ | refine (blk_kill_ne (by first | assumption | omega | (simp only [next_push, next_set, next_kill, ne_eq]; omega))).trans ?_)); (first | done | fail))) (by rfl) (by first | rfl | (simp; (first | done | fail)))) ?_
    refine al_opd rfl rfl rfl (ao_lss rfl rfl) ?_
    refine al_nilT ?_
    refine aw_cond rfl (fun h1_ => ?_) (fun h1_ => ?_)
    · try simp only [decide_eq_true_eq, decide_eq_false_iff_not, Bool.not_eq_true', Bool.not_eq_false', Bool.and_eq_true, Bool.or_eq_true, Bool.and_eq_false_iff, Bool.or_eq_false_iff, beq_iff_eq, bne_iff_ne, beq_eq_false_iff_ne, bne_eq_false_iff_eq, ne_eq, Decidable.not_not, Bool.decide_eq_true] at h1_
      refine aw_skipT ?_
      refine aw_seq ?_
      refine aw_block ?_
      refine aw_seq ?_
      refine aw_seq ?_
      refine aw_region ?_
      refine al_opd rfl rfl rfl (ao_as (v := .int _ _) rfl) ?_
      refine al_nilT ?_
      refine aw_block ?_
      refine aw_loop (fun (gk : Nat) (fr : AFr) (G : AHeap) => ∃ get : Nat → Value, fr = ⟨34, get⟩ ∧ (∃ x : Nat, (x : Int) ≤ r.w ∧ gk = r.w.toNat - x ∧ H = G ∧ get 0 = .pointer (some ⟨pb0, 0, none⟩) ∧ get 3 = .string (strOf (textTo (signB r) r.w.toNat y x)) ∧ get 4 = .int .i8 y ∧ get 5 = .int .i8 x)) (r.w.toNat) ⟨_, rfl, ?_⟩ ?_
      · exact ⟨0, by omega, rfl, rfl, rfl, rfl, rfl, rfl⟩
      · rintro gk fr G ⟨get, rfl, x, hx, rfl, rfl, g0, g3, g4, g5⟩
        have hlen := textTo_bnd (signB r) (w := r.w.toNat) (y := y) (x := x) (by omega) (by omega) (by omega)
        refine aw_slot (d := 0) (v := .pointer (some ⟨pb0, 0, none⟩)) (by first | assumption | rfl) ?_
        refine aw_slot (d := 3) (v := .string (strOf (textTo (signB r) r.w.toNat y x))) (by first | assumption | rfl) ?_
        refine aw_slot (d := 4) (v := .int .i8 y) (by first | assumption | rfl) ?_
        refine aw_slot (d := 5) (v := .int .i8 x) (by first | assumption | rfl) ?_
        refine aw_seq ?_
        refine aw_seq ?_
        refine aw_region ?_
        refine al_opd rfl rfl rfl (ao_mv (v := .int _ _) rfl) ?_
        refine al_opd rfl rfl rfl (ao_mv (v := .pointer _) rfl) ?_
        refine al_opd rfl rfl rfl (ao_nilCheck rfl) ?_
        refine al_opd rfl rfl rfl (ao_fieldAddr fo_28_0 rfl) ?_
        refine al_opd rfl rfl rfl (ao_load (v := .int _ _) Try.isAgg22 (by rfl) (by ((repeat (first | exact blk_push_new _ _ | assumption | apply blk_push_old | apply blk_set_same | refine (blk_set_ne (by first | assumption | omega | (simp only [next_push, next_set, next_kill, ne_eq]; omega))).trans ?_ | refine (blk_kill_ne (by first | assumption | omega | (simp only [next_push, next_set, next_kill, ne_eq]; omega))).trans ?_)); (first | done | fail))) (by rfl) (by first | rfl | (simp; (first | done | fail)))) ?_
        refine al_opd rfl rfl rfl (ao_lss rfl rfl) ?_
        refine al_nilT ?_
        refine aw_cond rfl (fun h2_ => ?_) (fun h2_ => ?_)
        · try simp only [decide_eq_true_eq, decide_eq_false_iff_not, Bool.not_eq_true', Bool.not_eq_false', Bool.and_eq_true, Bool.or_eq_true, Bool.and_eq_false_iff, Bool.or_eq_false_iff, beq_iff_eq, bne_iff_ne, beq_eq_false_iff_ne, bne_eq_false_iff_eq, ne_eq, Decidable.not_not, Bool.decide_eq_true] at h2_
          refine aw_skipT ?_
          refine aw_seq ?_
          refine aw_block ?_
          refine aw_seq ?_
          refine aw_region ?_
          refine al_opd rfl rfl rfl (ao_mv (v := .pointer _) rfl) ?_
          refine al_opd rfl rfl rfl (ao_mv (v := .int _ _) rfl) ?_
          refine al_opd rfl rfl rfl (ao_mv (v := .int _ _) rfl) ?_
          refine al_opd rfl rfl rfl (ao_build (A := #[.int .i8 (x : Int), .int .i8 (y : Int)]) Try.zeroValue38 (by rfl) (by first | rfl | kernel_rfl) (by rfl) (by first | rfl | kernel_rfl)) ?_
          refine al_opd rfl rfl rfl (ao_calld (l01Free_c (r := r) (s := ⟨(x : Int), (y : Int)⟩) (b := freeB r ⟨(x : Int), (y : Int)⟩) (by ((repeat (first | exact blk_push_new _ _ | assumption | apply blk_push_old | apply blk_set_same | refine (blk_set_ne (by first | assumption | omega | (simp only [next_push, next_set, next_kill, ne_eq]; omega))).trans ?_ | refine (blk_kill_ne (by first | assumption | omega | (simp only [next_push, next_set, next_kill, ne_eq]; omega))).trans ?_)); (first | done | fail))) hr hw ⟨⟨by show (-128 : Int) ≤ (x : Int); omega, by show (x : Int) ≤ 127; omega⟩, ⟨by show (-128 : Int) ≤ (y : Int); omega, by show (y : Int) ≤ 127; omega⟩⟩ (freeB_iff r _)) Try.call93 rfl rfl) ?_
          refine al_nilT ?_
          refine aw_cond rfl (fun h3_ => ?_) (fun h3_ => ?_)
          · try simp only [decide_eq_true_eq, decide_eq_false_iff_not, Bool.not_eq_true', Bool.not_eq_false', Bool.and_eq_true, Bool.or_eq_true, Bool.and_eq_false_iff, Bool.or_eq_false_iff, beq_iff_eq, bne_iff_ne, beq_eq_false_iff_ne, bne_eq_false_iff_eq, ne_eq, Decidable.not_not, Bool.decide_eq_true] at h3_
            refine aw_region ?_
            refine al_opd rfl rfl rfl (ao_mv (v := .string _) rfl) ?_
            refine al_opd rfl rfl rfl ((ao_sadd rfl rfl (by rw [strOf_size]; show _ + 1 ≤ _; omega)).val (congrArg Value.string (strOf_app (textTo (signB r) r.w.toNat y x) 46))) ?_
            refine al_opd rfl rfl rfl (ao_as (v := .string _) rfl) ?_
            refine al_nilB ?_
            refine thenA_n ?_
            refine aw_region ?_
            refine al_opd rfl rfl rfl (ao_mv (v := .int _ _) rfl) ?_
            first | refine al_opd rfl rfl rfl ((ao_add rfl rfl).val (nw_i8 (by first | omega | decide) (by first | omega | decide))) ?_ | refine al_opd rfl rfl rfl (ao_add rfl rfl) ?_
            refine al_opd rfl rfl rfl (ao_as (v := .int _ _) rfl) ?_
            refine al_nilT ?_
            exact ⟨_, by omega, _, rfl, x + 1, by omega, rfl, rfl, rfl, congrArg (fun l => Value.string (strOf l)) (by rw [textTo_succ]; unfold signB; rw [if_pos h3_]), rfl, by rfl⟩
          · try simp only [decide_eq_true_eq, decide_eq_false_iff_not, Bool.not_eq_true', Bool.not_eq_false', Bool.and_eq_true, Bool.or_eq_true, Bool.and_eq_false_iff, Bool.or_eq_false_iff, beq_iff_eq, bne_iff_ne, beq_eq_false_iff_ne, bne_eq_false_iff_eq, ne_eq, Decidable.not_not, Bool.decide_eq_true] at h3_
            refine aw_region ?_
            refine al_opd rfl rfl rfl (ao_mv (v := .string _) rfl) ?_
            refine al_opd rfl rfl rfl ((ao_sadd rfl rfl (by rw [strOf_size]; show _ + 1 ≤ _; omega)).val (congrArg Value.string (strOf_app (textTo (signB r) r.w.toNat y x) 35))) ?_
            refine al_opd rfl rfl rfl (ao_as (v := .string _) rfl) ?_
            refine al_nilB ?_
            refine thenA_n ?_
            refine aw_region ?_
            refine al_opd rfl rfl rfl (ao_mv (v := .int _ _) rfl) ?_
            first | refine al_opd rfl rfl rfl ((ao_add rfl rfl).val (nw_i8 (by first | omega | decide) (by first | omega | decide))) ?_ | refine al_opd rfl rfl rfl (ao_add rfl rfl) ?_
            refine al_opd rfl rfl rfl (ao_as (v := .int _ _) rfl) ?_
            refine al_nilT ?_
            exact ⟨_, by omega, _, rfl, x + 1, by omega, rfl, rfl, rfl, congrArg (fun l => Value.string (strOf l)) (by rw [textTo_succ]; unfold signB; rw [if_neg (by simpa using h3_)]), rfl, by rfl⟩
        · try simp only [decide_eq_true_eq, decide_eq_false_iff_not, Bool.not_eq_true', Bool.not_eq_false', Bool.and_eq_true, Bool.or_eq_true, Bool.and_eq_false_iff, Bool.or_eq_false_iff, beq_iff_eq, bne_iff_ne, beq_eq_false_iff_ne, bne_eq_false_iff_eq, ne_eq, Decidable.not_not, Bool.decide_eq_true] at h2_
          refine aw_exit ?_
          refine thenA_x ?_
          refine thenA_x ?_
          refine blockA_hit ?_
          refine thenA_n ?_
          refine aw_region ?_
          refine al_opd rfl rfl rfl (ao_mv (v := .string _) rfl) ?_
          refine al_opd rfl rfl rfl ((ao_sadd rfl rfl (by rw [strOf_size]; show _ + 1 ≤ _; omega)).val (congrArg Value.string (strOf_app (textTo (signB r) r.w.toNat y x) 10))) ?_
          refine al_opd rfl rfl rfl (ao_as (v := .string _) rfl) ?_
          refine al_nilB ?_
          refine thenA_n ?_
          refine aw_region ?_
          refine al_opd rfl rfl rfl (ao_mv (v := .int _ _) rfl) ?_
          first | refine al_opd rfl rfl rfl ((ao_add rfl rfl).val (nw_i8 (by first | omega | decide) (by first | omega | decide))) ?_ | refine al_opd rfl rfl rfl (ao_add rfl rfl) ?_
          refine al_opd rfl rfl rfl (ao_as (v := .int _ _) rfl) ?_
          refine al_nilT ?_
          have hxw : x = r.w.toNat := by omega
          subst hxw
          exact ⟨_, by omega, _, rfl, y + 1, by omega, rfl, rfl, rfl, congrArg (fun l => Value.string (strOf l)) (textTo_row _ _ _).symm, by rfl⟩
    · try simp only [decide_eq_true_eq, decide_eq_false_iff_not, Bool.not_eq_true', Bool.not_eq_false', Bool.and_eq_true, Bool.or_eq_true, Bool.and_eq_false_iff, Bool.or_eq_false_iff, beq_iff_eq, bne_iff_ne, beq_eq_false_iff_ne, bne_eq_false_iff_eq, ne_eq, Decidable.not_not, Bool.decide_eq_true] at h1_
      refine aw_exit ?_
      refine thenA_x ?_
      refine thenA_x ?_
      refine blockA_hit ?_
      refine thenA_n ?_
      refine aw_seq ?_
      refine aw_region ?_
      refine al_opd rfl rfl rfl (ao_mv (v := .string _) rfl) ?_
      refine al_opd rfl rfl rfl (ao_as (v := .string _) rfl) ?_
      refine al_nilT ?_
      refine aw_ret ?_
      refine ends1 rfl (rv_tmp (v := .string _) rfl) ?_
      have hyy : y = r.h.toNat := by omega
      subst hyy
      exact ⟨rfl, by (repeat (first | exact Same.refl _ _ | assumption | refine Same.push ?_ (by (first | exact Nat.le_refl _ | omega | (simp only [next_push, next_set, next_kill]; omega))) _ | refine Same.set ?_ (by (first | exact Nat.le_refl _ | omega | (simp only [next_push, next_set, next_kill]; omega))) _ | refine Same.kill ?_ (by (first | exact Nat.le_refl _ | omega | (simp only [next_push, next_set, next_kill]; omega)))))⟩

-- spec.RoomText
theorem specText1_c {r : Room} {H : AHeap} (hw : wfRoom r) (hr : okRoom r) : ACd Try.prog 44 [.agg (roomC r).toArray] H (.string (textR r)) (H) := by
  refine ac_gc0 (fun β => VR.plainT β (by first | rfl | simp [plainT, plainV, plain1])) (ac_body Try.func44 rfl Try.ntmps44 rfl ?_)
  refine aw_seq ?_
  refine aw_region ?_
  refine al_opd rfl rfl rfl (ao_boxa (by rfl)) ?_
  refine al_opd rfl rfl rfl (ao_as (v := .string _) rfl) ?_
  refine al_nilT ?_
  refine aw_seq ?_
  refine aw_seq ?_
  refine aw_region ?_
  refine al_opd rfl rfl rfl (ao_calld (l01Ok_c (r := r) (b := true) (by ((repeat (first | exact blk_push_new _ _ | assumption | apply blk_push_old | apply blk_set_same | refine (blk_set_ne (by first | assumption | omega | (simp only [next_push, next_set, next_kill, ne_eq]; omega))).trans ?_ | refine (blk_kill_ne (by first | assumption | omega | (simp only [next_push, next_set, next_kill, ne_eq]; omega))).trans ?_)); (first | done | fail))) hw (yes hr)) Try.call90 rfl rfl) ?_
  refine al_opd rfl rfl rfl (ao_not rfl) ?_
  refine al_nilT ?_
  refine aw_cond rfl (fun h1_ => ?_) (fun h1_ => ?_)
  · try simp only [decide_eq_true_eq, decide_eq_false_iff_not, Bool.not_eq_true', Bool.not_eq_false', Bool.and_eq_true, Bool.or_eq_true, Bool.and_eq_false_iff, Bool.or_eq_false_iff, beq_iff_eq, bne_iff_ne, beq_eq_false_iff_ne, bne_eq_false_iff_eq, ne_eq, Decidable.not_not, Bool.decide_eq_true] at h1_
    first | done | omega | (exfalso; revert h1_; simp; (first | done | omega))
  · try simp only [decide_eq_true_eq, decide_eq_false_iff_not, Bool.not_eq_true', Bool.not_eq_false', Bool.and_eq_true, Bool.or_eq_true, Bool.and_eq_false_iff, Bool.or_eq_false_iff, beq_iff_eq, bne_iff_ne, beq_eq_false_iff_ne, bne_eq_false_iff_eq, ne_eq, Decidable.not_not, Bool.decide_eq_true] at h1_
    refine aw_skipT ?_
    refine aw_seq ?_
    refine aw_region ?_
    refine al_opd rfl rfl rfl (ao_calld (l01Text_c (r := r) (by ((repeat (first | exact blk_push_new _ _ | assumption | apply blk_push_old | apply blk_set_same | refine (blk_set_ne (by first | assumption | omega | (simp only [next_push, next_set, next_kill, ne_eq]; omega))).trans ?_ | refine (blk_kill_ne (by first | assumption | omega | (simp only [next_push, next_set, next_kill, ne_eq]; omega))).trans ?_)); (first | done | fail))) hr hw) Try.call97 rfl rfl) ?_
    refine al_opd rfl rfl rfl (ao_as (v := .string _) rfl) ?_
    refine al_nilT ?_
    refine aw_ret ?_
    refine ends1 rfl (rv_tmp (v := .string _) rfl) ?_
    exact ⟨by first | rfl | (simp [*]; (first | done | fail)), by (repeat (first | exact Same.refl _ _ | assumption | refine Same.push ?_ (by (first | exact Nat.le_refl _ | omega | (simp only [next_push, next_set, next_kill]; omega))) _ | refine Same.set ?_ (by (first | exact Nat.le_refl _ | omega | (simp only [next_push, next_set, next_kill]; omega))) _ | refine Same.kill ?_ (by (first | exact Nat.le_refl _ | omega | (simp only [next_push, next_set, next_kill]; omega)))))⟩

-- spec.RoomText
theorem specText0_c {r : Room} {H : AHeap} (hw : wfRoom r) (hr : ¬ okRoom r) : ACd Try.prog 44 [.agg (roomC r).toArray] H (.string ⟨#[]⟩) (H) := by
  refine ac_gc0 (fun β => VR.plainT β (by first | rfl | simp [plainT, plainV, plain1])) (ac_body Try.func44 rfl Try.ntmps44 rfl ?_)
  refine aw_seq ?_
  refine aw_region ?_
  refine al_opd rfl rfl rfl (ao_boxa (by rfl)) ?_
  refine al_opd rfl rfl rfl (ao_as (v := .string _) rfl) ?_
  refine al_nilT ?_
  refine aw_seq ?_
  refine aw_seq ?_
  refine aw_region ?_
  refine al_opd rfl rfl rfl (ao_calld (l01Ok_c (r := r) (b := false) (by ((repeat (first | exact blk_push_new _ _ | assumption | apply blk_push_old | apply blk_set_same | refine (blk_set_ne (by first | assumption | omega | (simp only [next_push, next_set, next_kill, ne_eq]; omega))).trans ?_ | refine (blk_kill_ne (by first | assumption | omega | (simp only [next_push, next_set, next_kill, ne_eq]; omega))).trans ?_)); (first | done | fail))) hw (no hr)) Try.call90 rfl rfl) ?_
  refine al_opd rfl rfl rfl (ao_not rfl) ?_
  refine al_nilT ?_
  refine aw_cond rfl (fun h1_ => ?_) (fun h1_ => ?_)
  · try simp only [decide_eq_true_eq, decide_eq_false_iff_not, Bool.not_eq_true', Bool.not_eq_false', Bool.and_eq_true, Bool.or_eq_true, Bool.and_eq_false_iff, Bool.or_eq_false_iff, beq_iff_eq, bne_iff_ne, beq_eq_false_iff_ne, bne_eq_false_iff_eq, ne_eq, Decidable.not_not, Bool.decide_eq_true] at h1_
    refine aw_seq ?_
    refine aw_region ?_
    refine al_opd rfl rfl rfl (ao_as (v := .string _) rfl) ?_
    refine al_nilT ?_
    refine aw_ret ?_
    refine thenA_r ?_
    refine ends1 rfl (rv_tmp (v := .string _) rfl) ?_
    exact ⟨by first | rfl | (simp [*]; (first | done | fail)), by (repeat (first | exact Same.refl _ _ | assumption | refine Same.push ?_ (by (first | exact Nat.le_refl _ | omega | (simp only [next_push, next_set, next_kill]; omega))) _ | refine Same.set ?_ (by (first | exact Nat.le_refl _ | omega | (simp only [next_push, next_set, next_kill]; omega))) _ | refine Same.kill ?_ (by (first | exact Nat.le_refl _ | omega | (simp only [next_push, next_set, next_kill]; omega)))))⟩
  · try simp only [decide_eq_true_eq, decide_eq_false_iff_not, Bool.not_eq_true', Bool.not_eq_false', Bool.and_eq_true, Bool.or_eq_true, Bool.and_eq_false_iff, Bool.or_eq_false_iff, beq_iff_eq, bne_iff_ne, beq_eq_false_iff_ne, bne_eq_false_iff_eq, ne_eq, Decidable.not_not, Bool.decide_eq_true] at h1_
    first | done | omega | (exfalso; revert h1_; simp; (first | done | omega))

-- laws.FnExactRoomText
theorem lawText1_c {r : Room} {H : AHeap} (hw : wfRoom r) (hr : okRoom r) : ACd Try.prog 10 [.agg (roomC r).toArray] H (.bool true) (H) := by
  refine ac_gc0 (fun β => VR.plainT β (by first | rfl | simp [plainT, plainV, plain1])) (ac_body Try.func10 rfl Try.ntmps10 rfl ?_)
  refine aw_seq ?_
  refine aw_region ?_
  refine al_opd rfl rfl rfl (ao_boxa (by rfl)) ?_
  refine al_opd rfl rfl rfl (ao_as (v := .bool _) rfl) ?_
  refine al_nilT ?_
  refine aw_seq ?_
  refine aw_region ?_
  refine al_opd rfl rfl rfl (ao_loada Try.isAgg26 Try.sizeOf26 rfl (by ((repeat (first | exact blk_push_new _ _ | assumption | apply blk_push_old | apply blk_set_same | refine (blk_set_ne (by first | assumption | omega | (simp only [next_push, next_set, next_kill, ne_eq]; omega))).trans ?_ | refine (blk_kill_ne (by first | assumption | omega | (simp only [next_push, next_set, next_kill, ne_eq]; omega))).trans ?_)); (first | done | fail))) (by rfl) (by first | rfl | (simp; (first | done | fail)))) ?_
  refine al_opd rfl rfl rfl (ao_calld (toRoom_c (r := r)) Try.call27 rfl rfl) ?_
  refine al_opd rfl rfl rfl (ao_calld (specText1_c hw hr) Try.call44 rfl rfl) ?_
  refine al_opd rfl rfl rfl (ao_as (v := .string _) rfl) ?_
  refine al_nilT ?_
  refine aw_seq ?_
  refine aw_region ?_
  refine al_opd rfl rfl rfl (ao_loada Try.isAgg26 Try.sizeOf26 rfl (by ((repeat (first | exact blk_push_new _ _ | assumption | apply blk_push_old | apply blk_set_same | refine (blk_set_ne (by first | assumption | omega | (simp only [next_push, next_set, next_kill, ne_eq]; omega))).trans ?_ | refine (blk_kill_ne (by first | assumption | omega | (simp only [next_push, next_set, next_kill, ne_eq]; omega))).trans ?_)); (first | done | fail))) (by rfl) (by first | rfl | (simp; (first | done | fail)))) ?_
  refine al_opd rfl rfl rfl (ao_calld (toRoom_c (r := r)) Try.call27 rfl rfl) ?_
  refine al_opd rfl rfl rfl (ao_calld (implText1_c hw hr) Try.call45 rfl rfl) ?_
  refine al_opd rfl rfl rfl (ao_as (v := .string _) rfl) ?_
  refine al_nilT ?_
  refine aw_seq ?_
  refine aw_seq ?_
  refine aw_region ?_
  refine al_opd rfl rfl rfl (ao_mv (v := .string _) rfl) ?_
  refine al_opd rfl rfl rfl (ao_mv (v := .string _) rfl) ?_
  refine al_opd rfl rfl rfl (ao_sneq rfl rfl) ?_
  refine al_nilT ?_
  refine aw_cond rfl (fun h1_ => ?_) (fun h1_ => ?_)
  · try simp only [decide_eq_true_eq, decide_eq_false_iff_not, Bool.not_eq_true', Bool.not_eq_false', Bool.and_eq_true, Bool.or_eq_true, Bool.and_eq_false_iff, Bool.or_eq_false_iff, beq_iff_eq, bne_iff_ne, beq_eq_false_iff_ne, bne_eq_false_iff_eq, ne_eq, Decidable.not_not, Bool.decide_eq_true] at h1_
    first | done | omega | (exfalso; revert h1_; simp; (first | done | omega))
  · try simp only [decide_eq_true_eq, decide_eq_false_iff_not, Bool.not_eq_true', Bool.not_eq_false', Bool.and_eq_true, Bool.or_eq_true, Bool.and_eq_false_iff, Bool.or_eq_false_iff, beq_iff_eq, bne_iff_ne, beq_eq_false_iff_ne, bne_eq_false_iff_eq, ne_eq, Decidable.not_not, Bool.decide_eq_true] at h1_
    refine aw_skipT ?_
    refine aw_seq ?_
    refine aw_region ?_
    refine al_opd rfl rfl rfl (ao_as (v := .bool _) rfl) ?_
    refine al_nilT ?_
    refine aw_ret ?_
    refine ends1 rfl (rv_tmp (v := .bool _) rfl) ?_
    exact ⟨by first | rfl | (simp [*]; (first | done | fail)), by (repeat (first | exact Same.refl _ _ | assumption | refine Same.push ?_ (by (first | exact Nat.le_refl _ | omega | (simp only [next_push, next_set, next_kill]; omega))) _ | refine Same.set ?_ (by (first | exact Nat.le_refl _ | omega | (simp only [next_push, next_set, next_kill]; omega))) _ | refine Same.kill ?_ (by (first | exact Nat.le_refl _ | omega | (simp only [next_push, next_set, next_kill]; omega)))))⟩

-- laws.FnExactRoomText
theorem lawText0_c {r : Room} {H : AHeap} (hw : wfRoom r) (hr : ¬ okRoom r) : ACd Try.prog 10 [.agg (roomC r).toArray] H (.bool true) (H) := by
  refine ac_gc0 (fun β => VR.plainT β (by first | rfl | simp [plainT, plainV, plain1])) (ac_body Try.func10 rfl Try.ntmps10 rfl ?_)
  refine aw_seq ?_
  refine aw_region ?_
  refine al_opd rfl rfl rfl (ao_boxa (by rfl)) ?_
  refine al_opd rfl rfl rfl (ao_as (v := .bool _) rfl) ?_
  refine al_nilT ?_
  refine aw_seq ?_
  refine aw_region ?_
  refine al_opd rfl rfl rfl (ao_loada Try.isAgg26 Try.sizeOf26 rfl (by ((repeat (first | exact blk_push_new _ _ | assumption | apply blk_push_old | apply blk_set_same | refine (blk_set_ne (by first | assumption | omega | (simp only [next_push, next_set, next_kill, ne_eq]; omega))).trans ?_ | refine (blk_kill_ne (by first | assumption | omega | (simp only [next_push, next_set, next_kill, ne_eq]; omega))).trans ?_)); (first | done | fail))) (by rfl) (by first | rfl | (simp; (first | done | fail)))) ?_
  refine al_opd rfl rfl rfl (ao_calld (toRoom_c (r := r)) Try.call27 rfl rfl) ?_
  refine al_opd rfl rfl rfl (ao_calld (specText0_c hw hr) Try.call44 rfl rfl) ?_
  refine al_opd rfl rfl rfl (ao_as (v := .string _) rfl) ?_
  refine al_nilT ?_
  refine aw_seq ?_
  refine aw_region ?_
  refine al_opd rfl rfl rfl (ao_loada Try.isAgg26 Try.sizeOf26 rfl (by ((repeat (first | exact blk_push_new _ _ | assumption | apply blk_push_old | apply blk_set_same | refine (blk_set_ne (by first | assumption | omega | (simp only [next_push, next_set, next_kill, ne_eq]; omega))).trans ?_ | refine (blk_kill_ne (by first | assumption | omega | (simp only [next_push, next_set, next_kill, ne_eq]; omega))).trans ?_)); (first | done | fail))) (by rfl) (by first | rfl | (simp; (first | done | fail)))) ?_
  refine al_opd rfl rfl rfl (ao_calld (toRoom_c (r := r)) Try.call27 rfl rfl) ?_
  refine al_opd rfl rfl rfl (ao_calld (implText0_c hw hr) Try.call45 rfl rfl) ?_
  refine al_opd rfl rfl rfl (ao_as (v := .string _) rfl) ?_
  refine al_nilT ?_
  refine aw_seq ?_
  refine aw_seq ?_
  refine aw_region ?_
  refine al_opd rfl rfl rfl (ao_mv (v := .string _) rfl) ?_
  refine al_opd rfl rfl rfl (ao_mv (v := .string _) rfl) ?_
  refine al_opd rfl rfl rfl (ao_sneq rfl rfl) ?_
  refine al_nilT ?_
  refine aw_cond rfl (fun h1_ => ?_) (fun h1_ => ?_)
  · try simp only [decide_eq_true_eq, decide_eq_false_iff_not, Bool.not_eq_true', Bool.not_eq_false', Bool.and_eq_true, Bool.or_eq_true, Bool.and_eq_false_iff, Bool.or_eq_false_iff, beq_iff_eq, bne_iff_ne, beq_eq_false_iff_ne, bne_eq_false_iff_eq, ne_eq, Decidable.not_not, Bool.decide_eq_true] at h1_
    first | done | omega | (exfalso; revert h1_; simp; (first | done | omega))
  · try simp only [decide_eq_true_eq, decide_eq_false_iff_not, Bool.not_eq_true', Bool.not_eq_false', Bool.and_eq_true, Bool.or_eq_true, Bool.and_eq_false_iff, Bool.or_eq_false_iff, beq_iff_eq, bne_iff_ne, beq_eq_false_iff_ne, bne_eq_false_iff_eq, ne_eq, Decidable.not_not, Bool.decide_eq_true] at h1_
    refine aw_skipT ?_
    refine aw_seq ?_
    refine aw_region ?_
    refine al_opd rfl rfl rfl (ao_as (v := .bool _) rfl) ?_
    refine al_nilT ?_
    refine aw_ret ?_
    refine ends1 rfl (rv_tmp (v := .bool _) rfl) ?_
    exact ⟨by first | rfl | (simp [*]; (first | done | fail)), by (repeat (first | exact Same.refl _ _ | assumption | refine Same.push ?_ (by (first | exact Nat.le_refl _ | omega | (simp only [next_push, next_set, next_kill]; omega))) _ | refine Same.set ?_ (by (first | exact Nat.le_refl _ | omega | (simp only [next_push, next_set, next_kill]; omega))) _ | refine Same.kill ?_ (by (first | exact Nat.le_refl _ | omega | (simp only [next_push, next_set, next_kill]; omega)))))⟩

theorem lawText_c {r : Room} {H : AHeap} (hw : wfRoom r) : ACd Try.prog 10 [.agg (roomC r).toArray] H (.bool true) H := by
  by_cases hr : okRoom r
  · exact lawText1_c hw hr
  · exact lawText0_c hw hr

end Go.Proofs.Ytkpimjhacjfgfaa
