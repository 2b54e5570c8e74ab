/- Contracts of the program's functions over abstract heaps. -/
import Derived.Test.YtohaokdgokknaaaLcu
namespace Go.Proofs.Ytohaokdgokknaaa
open Go Go.AW Go.Proofs
set_option linter.unusedVariables false
set_option linter.unusedSimpArgs false
set_option maxRecDepth 100000
set_option maxHeartbeats 2000000

-- spec.l03Gaps
theorem l03Gaps_c {L : Int} {v : Value} {ks : List Int} {hs : List Hold} {lb c qb : Nat} {H : AHeap} (hqp : H.blk qb = some (.cells [.int .i16 L, v] 1)) (ha0 : Sl H i16 1 v ks) (hk0 : H.blk lb = some (.cells (fl hold hs) 2)) (hcc : hs.length ≤ c) (hlen : ks.length ≤ 4194304) (hn : hs.length ≤ 4194304) (hL : -32768 ≤ L ∧ L ≤ 32767) (hw : holdOk hs) (hv : okRope L ks ∧ okHolds ks.length hs) : ACd Try.prog 89 [.pointer (some ⟨qb, 0, none⟩), .slice (some ⟨lb, 0, none⟩) hs.length c] H (.slice (some ⟨H.next, 0, none⟩) (hgaps ks hs).length ((hgaps ks hs).length + 1)) (H.push (.cells (fl i64 (hgaps ks hs)) 1)) := by
  have hh0 : Sl H hold 2 (.slice (some ⟨lb, 0, none⟩) hs.length c) hs := Sl.full hold_len hk0 rfl rfl rfl
  have hlt0 := AHeap.lt hk0
  have hltq := AHeap.lt hqp
  have ⟨v1, v2, v3, v4, v5, v6, v7⟩ := hv.1
  refine ac_gcs (vrl_fl i64_plain (hgaps ks hs)) (ac_body Try.func89 rfl Try.ntmps89 rfl ?_)
  refine aw_seq ?_
  refine aw_region ?_
  first | refine al_opd rfl rfl rfl (ao_as (v := .slice _ _ _) rfl) ?_ | refine al_opd rfl rfl rfl (ao_as (v := v) rfl) ?_
  refine al_nilT ?_
  refine aw_seq ?_
  refine aw_region ?_
  refine al_opd rfl rfl rfl (ao_lit0 Try.underlying49 Try.sizeOf2 Try.zeroValue2 (by rfl) (by rfl) rfl) ?_
  first | refine al_opd rfl rfl rfl (ao_as (v := .slice _ _ _) rfl) ?_ | refine al_opd rfl rfl rfl (ao_as (v := v) rfl) ?_
  refine al_nilT ?_
  refine aw_seq ?_
  refine aw_seq ?_
  refine aw_region ?_
  refine al_opd rfl rfl rfl (ao_as (v := .int _ _) rfl) ?_
  refine al_nilT ?_
  refine aw_block ?_
  refine aw_loop (fun (gk : Nat) (fr : AFr) (G : AHeap) => ∃ get : Nat → Value, fr = ⟨44, get⟩ ∧ (∃ (k pb c' : Nat), (k = 0 ∨ k + 1 ≤ hs.length) ∧ gk = hs.length - k ∧ H.next ≤ pb ∧ Same (H.next) (H) G ∧ G.blk pb = some (.cells (fl i64 ((hgaps ks hs).take k)) 1) ∧ k ≤ c' ∧ get 1 = .slice (some ⟨lb, 0, none⟩) hs.length c ∧ get 0 = .pointer (some ⟨qb, 0, none⟩) ∧ get 5 = .slice (some ⟨pb, 0, none⟩) k c' ∧ get 6 = .int .i64 ((k + 1 : Nat) : Int))) (hs.length) ⟨_, rfl, ?_⟩ ?_
  · exact ⟨0, _, _, .inl rfl, rfl, by (first | exact Nat.le_refl _ | omega | (simp only [next_push, next_set, next_kill]; omega)), by (repeat (first | exact Same.refl _ _ | assumption | refine Same.push ?_ (by (first | exact Nat.le_refl _ | omega | (simp only [next_push, next_set, next_kill]; omega))) _ | refine Same.set ?_ (by (first | exact Nat.le_refl _ | omega | (simp only [next_push, next_set, next_kill]; omega))) _ | refine Same.kill ?_ (by (first | exact Nat.le_refl _ | omega | (simp only [next_push, next_set, next_kill]; omega))))), by ((repeat (first | exact blk_push_new _ _ | assumption | apply blk_push_old | apply blk_set_same | refine (blk_set_ne (by first | assumption | omega | (simp only [next_push, next_set, next_kill, ne_eq]; omega))).trans ?_)); (first | done | fail)), Nat.le_refl _, rfl, rfl, rfl, rfl⟩
  · rintro gk fr G ⟨get, rfl, k, pb, c', hk, rfl, hpb, hG, hkb, hc, g1, g2, g4, g5⟩
    have hlt := AHeap.lt hkb
    have hs0 : Same H.next H G := hG
    have hqG : G.blk qb = some (.cells [.int .i16 L, v] 1) := (hs0 _ hltq).trans hqp
    have ha : Sl G i16 1 v ks := ha0.mono hs0
    have hkG : G.blk lb = some (.cells (fl hold hs) 2) := (hs0 _ hlt0).trans hk0
    have hh : Sl G hold 2 (.slice (some ⟨lb, 0, none⟩) hs.length c) hs := Sl.full hold_len hkG rfl rfl rfl
    have hgl := hgaps_len ks hs
    refine aw_slot (d := 1) (v := .slice (some ⟨lb, 0, none⟩) hs.length c) (by first | assumption | rfl) ?_
    refine aw_slot (d := 0) (v := .pointer (some ⟨qb, 0, none⟩)) (by first | assumption | rfl) ?_
    refine aw_slot (d := 5) (v := .slice (some ⟨pb, 0, none⟩) k c') (by first | assumption | rfl) ?_
    refine aw_slot (d := 6) (v := .int .i64 ((k + 1 : Nat) : Int)) (by first | assumption | rfl) ?_
    refine aw_seq ?_
    refine aw_seq ?_
    refine aw_region ?_
    refine al_opd rfl rfl rfl (ao_mv (v := .int _ _) rfl) ?_
    first | refine al_opd rfl rfl rfl (ao_mv (v := .slice _ _ _) rfl) ?_ | refine al_opd rfl rfl rfl (ao_mv (v := v) rfl) ?_
    first | refine al_opd rfl rfl rfl (ao_lenS Try.underlying28 (by rfl)) ?_ | refine al_opd rfl rfl rfl (ao_lenN Try.underlying28 (by rfl)) ?_ | refine al_opd rfl rfl rfl (ao_lenV Try.underlying28 rfl ha) ?_ | refine al_opd rfl rfl rfl (ao_lenV Try.underlying28 rfl hh) ?_
    refine al_opd rfl rfl rfl (ao_lss rfl rfl) ?_
    refine al_nilT ?_
    refine aw_cond rfl (fun h1_ => ?_) (fun h1_ => ?_)
    · try simp only [decide_eq_true_eq, decide_eq_false_iff_not, Bool.not_eq_true', Bool.not_eq_false', Bool.and_eq_true, Bool.or_eq_true, Bool.and_eq_false_iff, Bool.or_eq_false_iff, beq_iff_eq, bne_iff_ne, beq_eq_false_iff_ne, bne_eq_false_iff_eq, ne_eq, Decidable.not_not, Bool.decide_eq_true] at h1_
      obtain ⟨x, hx⟩ := get_lt (show k < hs.length by omega)
      obtain ⟨y, hy⟩ := get_lt (show k + 1 < hs.length by omega)
      have ⟨⟨rx1, rx2, rx3, rx4⟩, _⟩ := hv.2 k x hx
      have ⟨⟨ry1, ry2, ry3, ry4⟩, _⟩ := hv.2 (k + 1) y hy
      obtain ⟨p, hp⟩ := get_lt (show x.knot.toNat < ks.length by omega)
      obtain ⟨q, hq⟩ := get_lt (show y.knot.toNat < ks.length by omega)
      have bp := hv.1.bnd hp
      have bq := hv.1.bnd hq
      refine aw_skipT ?_
      refine aw_seq ?_
      refine aw_block ?_
      refine aw_draw (m := 28) mo (by kernel_rfl) rfl ?_
      first | refine dw_opd rfl rfl rfl (ao_mv (v := .slice _ _ _) rfl) ?_ | refine dw_opd rfl rfl rfl (ao_mv (v := v) rfl) ?_
      refine dw_opd rfl rfl rfl (ao_mv (v := .pointer _) rfl) ?_
      refine dw_opd rfl rfl rfl (ao_nilCheck rfl) ?_
      refine dw_opd rfl rfl rfl (ao_fieldAddr fo_37_1 rfl) ?_
      first | refine dw_opd rfl rfl rfl (ao_load (v := .slice _ _ _) Try.isAgg32 (by rfl) (by ((repeat (first | exact blk_push_new _ _ | assumption | apply blk_push_old | apply blk_set_same | refine (blk_set_ne (by first | assumption | omega | (simp only [next_push, next_set, next_kill, ne_eq]; omega))).trans ?_)); (first | done | fail))) (by rfl) (by first | rfl | (simp; (first | done | fail)))) ?_ | refine dw_opd rfl rfl rfl (ao_load (v := v) Try.isAgg32 (by rfl) (by ((repeat (first | exact blk_push_new _ _ | assumption | apply blk_push_old | apply blk_set_same | refine (blk_set_ne (by first | assumption | omega | (simp only [next_push, next_set, next_kill, ne_eq]; omega))).trans ?_)); (first | done | fail))) (by rfl) (by first | rfl | (simp; (first | done | fail)))) ?_ | refine dw_opd rfl rfl rfl (ao_loadV (j := 0) (u := .slice _ _ _) Try.isAgg32 ha rfl rfl hp rfl) ?_ | refine dw_opd rfl rfl rfl (ao_loadV (j := 1) (u := .slice _ _ _) Try.isAgg32 ha rfl rfl hp rfl) ?_ | refine dw_opd rfl rfl rfl (ao_loadV (j := 0) (u := .slice _ _ _) Try.isAgg32 ha rfl rfl hq rfl) ?_ | refine dw_opd rfl rfl rfl (ao_loadV (j := 1) (u := .slice _ _ _) Try.isAgg32 ha rfl rfl hq rfl) ?_ | refine dw_opd rfl rfl rfl (ao_loadV (j := 0) (u := .slice _ _ _) Try.isAgg32 ha rfl rfl hx rfl) ?_ | refine dw_opd rfl rfl rfl (ao_loadV (j := 1) (u := .slice _ _ _) Try.isAgg32 ha rfl rfl hx rfl) ?_ | refine dw_opd rfl rfl rfl (ao_loadV (j := 0) (u := .slice _ _ _) Try.isAgg32 ha rfl rfl hy rfl) ?_ | refine dw_opd rfl rfl rfl (ao_loadV (j := 1) (u := .slice _ _ _) Try.isAgg32 ha rfl rfl hy rfl) ?_ | refine dw_opd rfl rfl rfl (ao_loadV (j := 0) (u := .slice _ _ _) Try.isAgg32 hh rfl rfl hp rfl) ?_ | refine dw_opd rfl rfl rfl (ao_loadV (j := 1) (u := .slice _ _ _) Try.isAgg32 hh rfl rfl hp rfl) ?_ | refine dw_opd rfl rfl rfl (ao_loadV (j := 0) (u := .slice _ _ _) Try.isAgg32 hh rfl rfl hq rfl) ?_ | refine dw_opd rfl rfl rfl (ao_loadV (j := 1) (u := .slice _ _ _) Try.isAgg32 hh rfl rfl hq rfl) ?_ | refine dw_opd rfl rfl rfl (ao_loadV (j := 0) (u := .slice _ _ _) Try.isAgg32 hh rfl rfl hx rfl) ?_ | refine dw_opd rfl rfl rfl (ao_loadV (j := 1) (u := .slice _ _ _) Try.isAgg32 hh rfl rfl hx rfl) ?_ | refine dw_opd rfl rfl rfl (ao_loadV (j := 0) (u := .slice _ _ _) Try.isAgg32 hh rfl rfl hy rfl) ?_ | refine dw_opd rfl rfl rfl (ao_loadV (j := 1) (u := .slice _ _ _) Try.isAgg32 hh rfl rfl hy rfl) ?_
      first | refine dw_opd rfl rfl rfl (ao_mv (v := .slice _ _ _) rfl) ?_ | refine dw_opd rfl rfl rfl (ao_mv (v := v) rfl) ?_
      refine dw_opd rfl rfl rfl (ao_mv (v := .int _ _) rfl) ?_
      first | refine dw_opd rfl rfl rfl (ao_indexAddrS Try.underlying28 Try.sizeOf81 rfl rfl (by first | omega | decide | (simp; omega)) (by first | omega | decide | (simp; omega))) ?_ | refine dw_opd rfl rfl rfl (ao_indexV Try.underlying28 Try.sizeOf81 rfl rfl ha (by first | omega | decide | (simp; omega)) (by first | omega | decide | (simp; omega))) ?_ | refine dw_opd rfl rfl rfl (ao_indexV Try.underlying28 Try.sizeOf81 rfl rfl hh (by first | omega | decide | (simp; omega)) (by first | omega | decide | (simp; omega))) ?_
      refine dw_opd rfl rfl rfl (ao_fieldAddr fo_81_1 rfl) ?_
      first | refine dw_opd rfl rfl rfl (ao_load (v := .int _ _) Try.isAgg79 (by rfl) (by ((repeat (first | exact blk_push_new _ _ | assumption | apply blk_push_old | apply blk_set_same | refine (blk_set_ne (by first | assumption | omega | (simp only [next_push, next_set, next_kill, ne_eq]; omega))).trans ?_)); (first | done | fail))) (by rfl) (by first | rfl | (simp; (first | done | fail)))) ?_ | refine dw_opd rfl rfl rfl (ao_loadV (j := 0) (u := .int _ _) Try.isAgg79 ha rfl rfl hp rfl) ?_ | refine dw_opd rfl rfl rfl (ao_loadV (j := 1) (u := .int _ _) Try.isAgg79 ha rfl rfl hp rfl) ?_ | refine dw_opd rfl rfl rfl (ao_loadV (j := 0) (u := .int _ _) Try.isAgg79 ha rfl rfl hq rfl) ?_ | refine dw_opd rfl rfl rfl (ao_loadV (j := 1) (u := .int _ _) Try.isAgg79 ha rfl rfl hq rfl) ?_ | refine dw_opd rfl rfl rfl (ao_loadV (j := 0) (u := .int _ _) Try.isAgg79 ha rfl rfl hx rfl) ?_ | refine dw_opd rfl rfl rfl (ao_loadV (j := 1) (u := .int _ _) Try.isAgg79 ha rfl rfl hx rfl) ?_ | refine dw_opd rfl rfl rfl (ao_loadV (j := 0) (u := .int _ _) Try.isAgg79 ha rfl rfl hy rfl) ?_ | refine dw_opd rfl rfl rfl (ao_loadV (j := 1) (u := .int _ _) Try.isAgg79 ha rfl rfl hy rfl) ?_ | refine dw_opd rfl rfl rfl (ao_loadV (j := 0) (u := .int _ _) Try.isAgg79 hh rfl rfl hp rfl) ?_ | refine dw_opd rfl rfl rfl (ao_loadV (j := 1) (u := .int _ _) Try.isAgg79 hh rfl rfl hp rfl) ?_ | refine dw_opd rfl rfl rfl (ao_loadV (j := 0) (u := .int _ _) Try.isAgg79 hh rfl rfl hq rfl) ?_ | refine dw_opd rfl rfl rfl (ao_loadV (j := 1) (u := .int _ _) Try.isAgg79 hh rfl rfl hq rfl) ?_ | refine dw_opd rfl rfl rfl (ao_loadV (j := 0) (u := .int _ _) Try.isAgg79 hh rfl rfl hx rfl) ?_ | refine dw_opd rfl rfl rfl (ao_loadV (j := 1) (u := .int _ _) Try.isAgg79 hh rfl rfl hx rfl) ?_ | refine dw_opd rfl rfl rfl (ao_loadV (j := 0) (u := .int _ _) Try.isAgg79 hh rfl rfl hy rfl) ?_ | refine dw_opd rfl rfl rfl (ao_loadV (j := 1) (u := .int _ _) Try.isAgg79 hh rfl rfl hy rfl) ?_
      first | refine dw_opd rfl rfl rfl (ao_indexAddrS Try.underlying32 Try.sizeOf31 rfl rfl (by first | omega | decide | (simp; omega)) (by first | omega | decide | (simp; omega))) ?_ | refine dw_opd rfl rfl rfl (ao_indexV Try.underlying32 Try.sizeOf31 rfl rfl ha (by first | omega | decide | (simp; omega)) (by first | omega | decide | (simp; omega))) ?_ | refine dw_opd rfl rfl rfl (ao_indexV Try.underlying32 Try.sizeOf31 rfl rfl hh (by first | omega | decide | (simp; omega)) (by first | omega | decide | (simp; omega))) ?_
      first | refine dw_opd rfl rfl rfl (ao_load (v := .int _ _) Try.isAgg31 (by rfl) (by ((repeat (first | exact blk_push_new _ _ | assumption | apply blk_push_old | apply blk_set_same | refine (blk_set_ne (by first | assumption | omega | (simp only [next_push, next_set, next_kill, ne_eq]; omega))).trans ?_)); (first | done | fail))) (by rfl) (by first | rfl | (simp; (first | done | fail)))) ?_ | refine dw_opd rfl rfl rfl (ao_loadV (j := 0) (u := .int _ _) Try.isAgg31 ha rfl rfl hp rfl) ?_ | refine dw_opd rfl rfl rfl (ao_loadV (j := 1) (u := .int _ _) Try.isAgg31 ha rfl rfl hp rfl) ?_ | refine dw_opd rfl rfl rfl (ao_loadV (j := 0) (u := .int _ _) Try.isAgg31 ha rfl rfl hq rfl) ?_ | refine dw_opd rfl rfl rfl (ao_loadV (j := 1) (u := .int _ _) Try.isAgg31 ha rfl rfl hq rfl) ?_ | refine dw_opd rfl rfl rfl (ao_loadV (j := 0) (u := .int _ _) Try.isAgg31 ha rfl rfl hx rfl) ?_ | refine dw_opd rfl rfl rfl (ao_loadV (j := 1) (u := .int _ _) Try.isAgg31 ha rfl rfl hx rfl) ?_ | refine dw_opd rfl rfl rfl (ao_loadV (j := 0) (u := .int _ _) Try.isAgg31 ha rfl rfl hy rfl) ?_ | refine dw_opd rfl rfl rfl (ao_loadV (j := 1) (u := .int _ _) Try.isAgg31 ha rfl rfl hy rfl) ?_ | refine dw_opd rfl rfl rfl (ao_loadV (j := 0) (u := .int _ _) Try.isAgg31 hh rfl rfl hp rfl) ?_ | refine dw_opd rfl rfl rfl (ao_loadV (j := 1) (u := .int _ _) Try.isAgg31 hh rfl rfl hp rfl) ?_ | refine dw_opd rfl rfl rfl (ao_loadV (j := 0) (u := .int _ _) Try.isAgg31 hh rfl rfl hq rfl) ?_ | refine dw_opd rfl rfl rfl (ao_loadV (j := 1) (u := .int _ _) Try.isAgg31 hh rfl rfl hq rfl) ?_ | refine dw_opd rfl rfl rfl (ao_loadV (j := 0) (u := .int _ _) Try.isAgg31 hh rfl rfl hx rfl) ?_ | refine dw_opd rfl rfl rfl (ao_loadV (j := 1) (u := .int _ _) Try.isAgg31 hh rfl rfl hx rfl) ?_ | refine dw_opd rfl rfl rfl (ao_loadV (j := 0) (u := .int _ _) Try.isAgg31 hh rfl rfl hy rfl) ?_ | refine dw_opd rfl rfl rfl (ao_loadV (j := 1) (u := .int _ _) Try.isAgg31 hh rfl rfl hy rfl) ?_
      first | refine dw_opd rfl rfl rfl ((ao_conv ⟨_, Try.underlying31⟩ Try.underlying2 rfl).val (nw_i64 (by first | omega | decide) (by first | omega | decide))) ?_ | refine dw_opd rfl rfl rfl (ao_conv ⟨_, Try.underlying31⟩ Try.underlying2 rfl) ?_
      refine dw_opd rfl rfl rfl (ao_mv (v := .pointer _) rfl) ?_
      refine dw_opd rfl rfl rfl (ao_nilCheck rfl) ?_
      refine dw_opd rfl rfl rfl (ao_fieldAddr fo_37_1 rfl) ?_
      first | refine dw_opd rfl rfl rfl (ao_load (v := .slice _ _ _) Try.isAgg32 (by rfl) (by ((repeat (first | exact blk_push_new _ _ | assumption | apply blk_push_old | apply blk_set_same | refine (blk_set_ne (by first | assumption | omega | (simp only [next_push, next_set, next_kill, ne_eq]; omega))).trans ?_)); (first | done | fail))) (by rfl) (by first | rfl | (simp; (first | done | fail)))) ?_ | refine dw_opd rfl rfl rfl (ao_load (v := v) Try.isAgg32 (by rfl) (by ((repeat (first | exact blk_push_new _ _ | assumption | apply blk_push_old | apply blk_set_same | refine (blk_set_ne (by first | assumption | omega | (simp only [next_push, next_set, next_kill, ne_eq]; omega))).trans ?_)); (first | done | fail))) (by rfl) (by first | rfl | (simp; (first | done | fail)))) ?_ | refine dw_opd rfl rfl rfl (ao_loadV (j := 0) (u := .slice _ _ _) Try.isAgg32 ha rfl rfl hp rfl) ?_ | refine dw_opd rfl rfl rfl (ao_loadV (j := 1) (u := .slice _ _ _) Try.isAgg32 ha rfl rfl hp rfl) ?_ | refine dw_opd rfl rfl rfl (ao_loadV (j := 0) (u := .slice _ _ _) Try.isAgg32 ha rfl rfl hq rfl) ?_ | refine dw_opd rfl rfl rfl (ao_loadV (j := 1) (u := .slice _ _ _) Try.isAgg32 ha rfl rfl hq rfl) ?_ | refine dw_opd rfl rfl rfl (ao_loadV (j := 0) (u := .slice _ _ _) Try.isAgg32 ha rfl rfl hx rfl) ?_ | refine dw_opd rfl rfl rfl (ao_loadV (j := 1) (u := .slice _ _ _) Try.isAgg32 ha rfl rfl hx rfl) ?_ | refine dw_opd rfl rfl rfl (ao_loadV (j := 0) (u := .slice _ _ _) Try.isAgg32 ha rfl rfl hy rfl) ?_ | refine dw_opd rfl rfl rfl (ao_loadV (j := 1) (u := .slice _ _ _) Try.isAgg32 ha rfl rfl hy rfl) ?_ | refine dw_opd rfl rfl rfl (ao_loadV (j := 0) (u := .slice _ _ _) Try.isAgg32 hh rfl rfl hp rfl) ?_ | refine dw_opd rfl rfl rfl (ao_loadV (j := 1) (u := .slice _ _ _) Try.isAgg32 hh rfl rfl hp rfl) ?_ | refine dw_opd rfl rfl rfl (ao_loadV (j := 0) (u := .slice _ _ _) Try.isAgg32 hh rfl rfl hq rfl) ?_ | refine dw_opd rfl rfl rfl (ao_loadV (j := 1) (u := .slice _ _ _) Try.isAgg32 hh rfl rfl hq rfl) ?_ | refine dw_opd rfl rfl rfl (ao_loadV (j := 0) (u := .slice _ _ _) Try.isAgg32 hh rfl rfl hx rfl) ?_ | refine dw_opd rfl rfl rfl (ao_loadV (j := 1) (u := .slice _ _ _) Try.isAgg32 hh rfl rfl hx rfl) ?_ | refine dw_opd rfl rfl rfl (ao_loadV (j := 0) (u := .slice _ _ _) Try.isAgg32 hh rfl rfl hy rfl) ?_ | refine dw_opd rfl rfl rfl (ao_loadV (j := 1) (u := .slice _ _ _) Try.isAgg32 hh rfl rfl hy rfl) ?_
      first | refine dw_opd rfl rfl rfl (ao_mv (v := .slice _ _ _) rfl) ?_ | refine dw_opd rfl rfl rfl (ao_mv (v := v) rfl) ?_
      refine dw_opd rfl rfl rfl (ao_mv (v := .int _ _) rfl) ?_
      refine dw_opd rfl rfl rfl ((ao_sub rfl rfl).val (sub1 k (by omega))) ?_
      first | refine dw_opd rfl rfl rfl (ao_indexAddrS Try.underlying28 Try.sizeOf81 rfl rfl (by first | omega | decide | (simp; omega)) (by first | omega | decide | (simp; omega))) ?_ | refine dw_opd rfl rfl rfl (ao_indexV Try.underlying28 Try.sizeOf81 rfl rfl ha (by first | omega | decide | (simp; omega)) (by first | omega | decide | (simp; omega))) ?_ | refine dw_opd rfl rfl rfl (ao_indexV Try.underlying28 Try.sizeOf81 rfl rfl hh (by first | omega | decide | (simp; omega)) (by first | omega | decide | (simp; omega))) ?_
      refine dw_opd rfl rfl rfl (ao_fieldAddr fo_81_1 rfl) ?_
      first | refine dw_opd rfl rfl rfl (ao_load (v := .int _ _) Try.isAgg79 (by rfl) (by ((repeat (first | exact blk_push_new _ _ | assumption | apply blk_push_old | apply blk_set_same | refine (blk_set_ne (by first | assumption | omega | (simp only [next_push, next_set, next_kill, ne_eq]; omega))).trans ?_)); (first | done | fail))) (by rfl) (by first | rfl | (simp; (first | done | fail)))) ?_ | refine dw_opd rfl rfl rfl (ao_loadV (j := 0) (u := .int _ _) Try.isAgg79 ha rfl rfl hp rfl) ?_ | refine dw_opd rfl rfl rfl (ao_loadV (j := 1) (u := .int _ _) Try.isAgg79 ha rfl rfl hp rfl) ?_ | refine dw_opd rfl rfl rfl (ao_loadV (j := 0) (u := .int _ _) Try.isAgg79 ha rfl rfl hq rfl) ?_ | refine dw_opd rfl rfl rfl (ao_loadV (j := 1) (u := .int _ _) Try.isAgg79 ha rfl rfl hq rfl) ?_ | refine dw_opd rfl rfl rfl (ao_loadV (j := 0) (u := .int _ _) Try.isAgg79 ha rfl rfl hx rfl) ?_ | refine dw_opd rfl rfl rfl (ao_loadV (j := 1) (u := .int _ _) Try.isAgg79 ha rfl rfl hx rfl) ?_ | refine dw_opd rfl rfl rfl (ao_loadV (j := 0) (u := .int _ _) Try.isAgg79 ha rfl rfl hy rfl) ?_ | refine dw_opd rfl rfl rfl (ao_loadV (j := 1) (u := .int _ _) Try.isAgg79 ha rfl rfl hy rfl) ?_ | refine dw_opd rfl rfl rfl (ao_loadV (j := 0) (u := .int _ _) Try.isAgg79 hh rfl rfl hp rfl) ?_ | refine dw_opd rfl rfl rfl (ao_loadV (j := 1) (u := .int _ _) Try.isAgg79 hh rfl rfl hp rfl) ?_ | refine dw_opd rfl rfl rfl (ao_loadV (j := 0) (u := .int _ _) Try.isAgg79 hh rfl rfl hq rfl) ?_ | refine dw_opd rfl rfl rfl (ao_loadV (j := 1) (u := .int _ _) Try.isAgg79 hh rfl rfl hq rfl) ?_ | refine dw_opd rfl rfl rfl (ao_loadV (j := 0) (u := .int _ _) Try.isAgg79 hh rfl rfl hx rfl) ?_ | refine dw_opd rfl rfl rfl (ao_loadV (j := 1) (u := .int _ _) Try.isAgg79 hh rfl rfl hx rfl) ?_ | refine dw_opd rfl rfl rfl (ao_loadV (j := 0) (u := .int _ _) Try.isAgg79 hh rfl rfl hy rfl) ?_ | refine dw_opd rfl rfl rfl (ao_loadV (j := 1) (u := .int _ _) Try.isAgg79 hh rfl rfl hy rfl) ?_
      first | refine dw_opd rfl rfl rfl (ao_indexAddrS Try.underlying32 Try.sizeOf31 rfl rfl (by first | omega | decide | (simp; omega)) (by first | omega | decide | (simp; omega))) ?_ | refine dw_opd rfl rfl rfl (ao_indexV Try.underlying32 Try.sizeOf31 rfl rfl ha (by first | omega | decide | (simp; omega)) (by first | omega | decide | (simp; omega))) ?_ | refine dw_opd rfl rfl rfl (ao_indexV Try.underlying32 Try.sizeOf31 rfl rfl hh (by first | omega | decide | (simp; omega)) (by first | omega | decide | (simp; omega))) ?_
      first | refine dw_opd rfl rfl rfl (ao_load (v := .int _ _) Try.isAgg31 (by rfl) (by ((repeat (first | exact blk_push_new _ _ | assumption | apply blk_push_old | apply blk_set_same | refine (blk_set_ne (by first | assumption | omega | (simp only [next_push, next_set, next_kill, ne_eq]; omega))).trans ?_)); (first | done | fail))) (by rfl) (by first | rfl | (simp; (first | done | fail)))) ?_ | refine dw_opd rfl rfl rfl (ao_loadV (j := 0) (u := .int _ _) Try.isAgg31 ha rfl rfl hp rfl) ?_ | refine dw_opd rfl rfl rfl (ao_loadV (j := 1) (u := .int _ _) Try.isAgg31 ha rfl rfl hp rfl) ?_ | refine dw_opd rfl rfl rfl (ao_loadV (j := 0) (u := .int _ _) Try.isAgg31 ha rfl rfl hq rfl) ?_ | refine dw_opd rfl rfl rfl (ao_loadV (j := 1) (u := .int _ _) Try.isAgg31 ha rfl rfl hq rfl) ?_ | refine dw_opd rfl rfl rfl (ao_loadV (j := 0) (u := .int _ _) Try.isAgg31 ha rfl rfl hx rfl) ?_ | refine dw_opd rfl rfl rfl (ao_loadV (j := 1) (u := .int _ _) Try.isAgg31 ha rfl rfl hx rfl) ?_ | refine dw_opd rfl rfl rfl (ao_loadV (j := 0) (u := .int _ _) Try.isAgg31 ha rfl rfl hy rfl) ?_ | refine dw_opd rfl rfl rfl (ao_loadV (j := 1) (u := .int _ _) Try.isAgg31 ha rfl rfl hy rfl) ?_ | refine dw_opd rfl rfl rfl (ao_loadV (j := 0) (u := .int _ _) Try.isAgg31 hh rfl rfl hp rfl) ?_ | refine dw_opd rfl rfl rfl (ao_loadV (j := 1) (u := .int _ _) Try.isAgg31 hh rfl rfl hp rfl) ?_ | refine dw_opd rfl rfl rfl (ao_loadV (j := 0) (u := .int _ _) Try.isAgg31 hh rfl rfl hq rfl) ?_ | refine dw_opd rfl rfl rfl (ao_loadV (j := 1) (u := .int _ _) Try.isAgg31 hh rfl rfl hq rfl) ?_ | refine dw_opd rfl rfl rfl (ao_loadV (j := 0) (u := .int _ _) Try.isAgg31 hh rfl rfl hx rfl) ?_ | refine dw_opd rfl rfl rfl (ao_loadV (j := 1) (u := .int _ _) Try.isAgg31 hh rfl rfl hx rfl) ?_ | refine dw_opd rfl rfl rfl (ao_loadV (j := 0) (u := .int _ _) Try.isAgg31 hh rfl rfl hy rfl) ?_ | refine dw_opd rfl rfl rfl (ao_loadV (j := 1) (u := .int _ _) Try.isAgg31 hh rfl rfl hy rfl) ?_
      first | refine dw_opd rfl rfl rfl ((ao_conv ⟨_, Try.underlying31⟩ Try.underlying2 rfl).val (nw_i64 (by first | omega | decide) (by first | omega | decide))) ?_ | refine dw_opd rfl rfl rfl (ao_conv ⟨_, Try.underlying31⟩ Try.underlying2 rfl) ?_
      first | refine dw_opd rfl rfl rfl ((ao_sub rfl rfl).val (nw_i64 (by first | omega | decide) (by first | omega | decide))) ?_ | refine dw_opd rfl rfl rfl (ao_sub rfl rfl) ?_
      refine dw_opn rfl rfl rfl (ao_lit1 (v := .int _ _) Try.underlying49 Try.sizeOf2 Try.zeroValue2 (by rfl) (by rfl) rfl rfl (by rfl) (by first | rfl | (simp; (first | done | fail)))) ?_
      refine dw_end ?_
      refine al_opd rfl rfl rfl (ao_appC Try.underlying49 ⟨_, Try.underlying49⟩ elem2 (by rfl) (by rfl) (by ((repeat (first | exact blk_push_new _ _ | assumption | apply blk_push_old | apply blk_set_same | refine (blk_set_ne (by first | assumption | omega | (simp only [next_push, next_set, next_kill, ne_eq]; omega))).trans ?_)); (first | done | fail))) (by (rw [fl_len i64_len, List.length_take]; omega)) (by first | exact src_all (by ((repeat (first | exact blk_push_new _ _ | assumption | apply blk_push_old | apply blk_set_same | refine (blk_set_ne (by first | assumption | omega | (simp only [next_push, next_set, next_kill, ne_eq]; omega))).trans ?_)); (first | done | fail))) (by rfl) (by rfl) | exact src_all (by ((repeat (first | exact blk_push_new _ _ | assumption | apply blk_push_old | apply blk_set_same | refine (blk_set_ne (by first | assumption | omega | (simp only [next_push, next_set, next_kill, ne_eq]; omega))).trans ?_)); (first | done | fail))) (by rfl) (by simp)) (by first | rfl | simp [isOne]) (by first | omega | decide) (by first | omega | decide)) ?_
      first | refine al_opd rfl rfl rfl (ao_as (v := .slice _ _ _) rfl) ?_ | refine al_opd rfl rfl rfl (ao_as (v := v) rfl) ?_
      refine al_nilB ?_
      refine thenA_n ?_
      refine aw_region ?_
      refine al_opd rfl rfl rfl (ao_mv (v := .int _ _) rfl) ?_
      first | refine al_opd rfl rfl rfl ((ao_add rfl rfl).val (nw_i64 (by first | omega | decide) (by first | omega | decide))) ?_ | refine al_opd rfl rfl rfl (ao_add rfl rfl) ?_
      refine al_opd rfl rfl rfl (ao_as (v := .int _ _) rfl) ?_
      refine al_nilT ?_
      refine ⟨_, ?_, _, rfl, k + 1, _, _, by omega, rfl, by (first | exact Nat.le_refl _ | omega | (simp only [next_push, next_set, next_kill]; omega)), by (repeat (first | exact Same.refl _ _ | assumption | refine Same.push ?_ (by (first | exact Nat.le_refl _ | omega | (simp only [next_push, next_set, next_kill]; omega))) _ | refine Same.set ?_ (by (first | exact Nat.le_refl _ | omega | (simp only [next_push, next_set, next_kill]; omega))) _ | refine Same.kill ?_ (by (first | exact Nat.le_refl _ | omega | (simp only [next_push, next_set, next_kill]; omega))))), ?_, by omega, rfl, rfl, rfl, by rfl⟩
      · omega
      · rw [← app_snoc (e := i64) (hgaps_at hx hy hp hq)]; exact blk_push_new _ _
    · try simp only [decide_eq_true_eq, decide_eq_false_iff_not, Bool.not_eq_true', Bool.not_eq_false', Bool.and_eq_true, Bool.or_eq_true, Bool.and_eq_false_iff, Bool.or_eq_false_iff, beq_iff_eq, bne_iff_ne, beq_eq_false_iff_ne, bne_eq_false_iff_eq, ne_eq, Decidable.not_not, Bool.decide_eq_true] at h1_
      refine aw_exit ?_
      refine thenA_x ?_
      refine thenA_x ?_
      refine blockA_hit ?_
      refine thenA_n ?_
      refine aw_seq ?_
      refine aw_region ?_
      first | refine al_opd rfl rfl rfl (ao_mv (v := .slice _ _ _) rfl) ?_ | refine al_opd rfl rfl rfl (ao_mv (v := v) rfl) ?_
      first | refine al_opd rfl rfl rfl (ao_as (v := .slice _ _ _) rfl) ?_ | refine al_opd rfl rfl rfl (ao_as (v := v) rfl) ?_
      refine al_nilT ?_
      refine aw_ret ?_
      refine ends1 rfl (rv_tmp (v := .slice _ _ _) rfl) ?_
      rw [List.take_of_length_le (by omega)] at hkb
      obtain rfl : k = (hgaps ks hs).length := by omega
      exact ⟨hs0, pb, by omega, hkb, fun ρ h => vr_sl h (by omega) (by omega)⟩

-- spec.GapsOf
theorem specGaps1_c {L : Int} {v : Value} {ks : List Int} {hs : List Hold} {lb c : Nat} {H : AHeap} (ha0 : Sl H i16 1 v ks) (hk0 : H.blk lb = some (.cells (fl hold hs) 2)) (hcc : hs.length ≤ c) (hlen : ks.length ≤ 4194304) (hn : hs.length ≤ 4194304) (hL : -32768 ≤ L ∧ L ≤ 32767) (hw : holdOk hs) (hv : okRope L ks ∧ okHolds ks.length hs) : ACd Try.prog 52 [.agg #[.int .i16 L, v], .slice (some ⟨lb, 0, none⟩) hs.length c] H (.tuple #[.slice (some ⟨H.next, 0, none⟩) (hgaps ks hs).length ((hgaps ks hs).length + 1), .int .i64 0]) (H.push (.cells (fl i64 (hgaps ks hs)) 1)) := by
  have hh0 : Sl H hold 2 (.slice (some ⟨lb, 0, none⟩) hs.length c) hs := Sl.full hold_len hk0 rfl rfl rfl
  have hlt0 := AHeap.lt hk0
  refine ac_gcs (vrl_fl i64_plain (hgaps ks hs)) (ac_body Try.func52 rfl Try.ntmps52 rfl ?_)
  refine aw_seq ?_
  refine aw_region ?_
  refine al_opd rfl rfl rfl (ao_boxa (by rfl)) ?_
  first | refine al_opd rfl rfl rfl (ao_as (v := .slice _ _ _) rfl) ?_ | refine al_opd rfl rfl rfl (ao_as (v := v) rfl) ?_
  refine al_opd rfl rfl rfl (ao_as (v := .int _ _) rfl) ?_
  refine al_nilT ?_
  refine aw_seq ?_
  refine aw_seq ?_
  refine aw_region ?_
  first | refine al_opd rfl rfl rfl (ao_mv (v := .slice _ _ _) rfl) ?_ | refine al_opd rfl rfl rfl (ao_mv (v := v) rfl) ?_
  refine al_opd rfl rfl rfl (ao_calld (l03Holds_c (L := L) (v := v) (ks := ks) (hs := hs) (b := true) (ha0.mono (by (repeat (first | exact Same.refl _ _ | assumption | refine Same.push ?_ (by (first | exact Nat.le_refl _ | omega | (simp only [next_push, next_set, next_kill]; omega))) _ | refine Same.set ?_ (by (first | exact Nat.le_refl _ | omega | (simp only [next_push, next_set, next_kill]; omega))) _ | refine Same.kill ?_ (by (first | exact Nat.le_refl _ | omega | (simp only [next_push, next_set, next_kill]; omega))))))) (hh0.mono (by (repeat (first | exact Same.refl _ _ | assumption | refine Same.push ?_ (by (first | exact Nat.le_refl _ | omega | (simp only [next_push, next_set, next_kill]; omega))) _ | refine Same.set ?_ (by (first | exact Nat.le_refl _ | omega | (simp only [next_push, next_set, next_kill]; omega))) _ | refine Same.kill ?_ (by (first | exact Nat.le_refl _ | omega | (simp only [next_push, next_set, next_kill]; omega))))))) (by ((repeat (first | exact blk_push_new _ _ | assumption | apply blk_push_old | apply blk_set_same | refine (blk_set_ne (by first | assumption | omega | (simp only [next_push, next_set, next_kill, ne_eq]; omega))).trans ?_)); (first | done | fail))) hlen hn hL hw (yes hv)) Try.call84 rfl rfl) ?_
  refine al_opd rfl rfl rfl (ao_not rfl) ?_
  refine al_nilT ?_
  refine aw_cond rfl (fun h1_ => ?_) (fun h1_ => ?_)
  · try simp only [decide_eq_true_eq, decide_eq_false_iff_not, Bool.not_eq_true', Bool.not_eq_false', Bool.and_eq_true, Bool.or_eq_true, Bool.and_eq_false_iff, Bool.or_eq_false_iff, beq_iff_eq, bne_iff_ne, beq_eq_false_iff_ne, bne_eq_false_iff_eq, ne_eq, Decidable.not_not, Bool.decide_eq_true] at h1_
    first | done | omega | (exfalso; revert h1_; simp; (first | done | omega))
  · try simp only [decide_eq_true_eq, decide_eq_false_iff_not, Bool.not_eq_true', Bool.not_eq_false', Bool.and_eq_true, Bool.or_eq_true, Bool.and_eq_false_iff, Bool.or_eq_false_iff, beq_iff_eq, bne_iff_ne, beq_eq_false_iff_ne, bne_eq_false_iff_eq, ne_eq, Decidable.not_not, Bool.decide_eq_true] at h1_
    refine aw_skipT ?_
    refine aw_seq ?_
    refine aw_region ?_
    first | refine al_opd rfl rfl rfl (ao_mv (v := .slice _ _ _) rfl) ?_ | refine al_opd rfl rfl rfl (ao_mv (v := v) rfl) ?_
    refine al_opd rfl rfl rfl (ao_calld (l03Gaps_c (L := L) (v := v) (ks := ks) (hs := hs) (by ((repeat (first | exact blk_push_new _ _ | assumption | apply blk_push_old | apply blk_set_same | refine (blk_set_ne (by first | assumption | omega | (simp only [next_push, next_set, next_kill, ne_eq]; omega))).trans ?_)); (first | done | fail))) (ha0.mono (by (repeat (first | exact Same.refl _ _ | assumption | refine Same.push ?_ (by (first | exact Nat.le_refl _ | omega | (simp only [next_push, next_set, next_kill]; omega))) _ | refine Same.set ?_ (by (first | exact Nat.le_refl _ | omega | (simp only [next_push, next_set, next_kill]; omega))) _ | refine Same.kill ?_ (by (first | exact Nat.le_refl _ | omega | (simp only [next_push, next_set, next_kill]; omega))))))) (by ((repeat (first | exact blk_push_new _ _ | assumption | apply blk_push_old | apply blk_set_same | refine (blk_set_ne (by first | assumption | omega | (simp only [next_push, next_set, next_kill, ne_eq]; omega))).trans ?_)); (first | done | fail))) hcc hlen hn hL hw hv) Try.call89 rfl rfl) ?_
    first | refine al_opd rfl rfl rfl (ao_as (v := .slice _ _ _) rfl) ?_ | refine al_opd rfl rfl rfl (ao_as (v := v) rfl) ?_
    refine al_opd rfl rfl rfl (ao_as (v := .int _ _) rfl) ?_
    refine al_nilT ?_
    refine aw_ret ?_
    refine ends2 rfl (rv_tmp (v := .slice _ _ _) rfl) (rv_tmp (v := .int _ _) rfl) ?_
    exact ⟨by (repeat (first | exact Same.refl _ _ | assumption | refine Same.push ?_ (by (first | exact Nat.le_refl _ | omega | (simp only [next_push, next_set, next_kill]; omega))) _ | refine Same.set ?_ (by (first | exact Nat.le_refl _ | omega | (simp only [next_push, next_set, next_kill]; omega))) _ | refine Same.kill ?_ (by (first | exact Nat.le_refl _ | omega | (simp only [next_push, next_set, next_kill]; omega))))), _, by (first | exact Nat.le_refl _ | omega | (simp only [next_push, next_set, next_kill]; omega)), by ((repeat (first | exact blk_push_new _ _ | assumption | apply blk_push_old | apply blk_set_same | refine (blk_set_ne (by first | assumption | omega | (simp only [next_push, next_set, next_kill, ne_eq]; omega))).trans ?_)); (first | done | fail)), fun ρ h => vr_tup2 (vr_sl h (by omega) (by omega)) (.int _ _)⟩

-- spec.GapsOf
theorem specGaps0_c {L : Int} {v : Value} {ks : List Int} {hs : List Hold} {lb c : Nat} {H : AHeap} (ha0 : Sl H i16 1 v ks) (hk0 : H.blk lb = some (.cells (fl hold hs) 2)) (hcc : hs.length ≤ c) (hlen : ks.length ≤ 4194304) (hn : hs.length ≤ 4194304) (hL : -32768 ≤ L ∧ L ≤ 32767) (hw : holdOk hs) (hv : ¬ (okRope L ks ∧ okHolds ks.length hs)) : ACd Try.prog 52 [.agg #[.int .i16 L, v], .slice (some ⟨lb, 0, none⟩) hs.length c] H (.tuple #[.slice (some ⟨H.next, 0, none⟩) 0 0, .int .i64 1]) (H.push (.cells (fl i64 []) 1)) := by
  have hh0 : Sl H hold 2 (.slice (some ⟨lb, 0, none⟩) hs.length c) hs := Sl.full hold_len hk0 rfl rfl rfl
  have hlt0 := AHeap.lt hk0
  refine ac_gcs (vrl_fl i64_plain []) (ac_body Try.func52 rfl Try.ntmps52 rfl ?_)
  refine aw_seq ?_
  refine aw_region ?_
  refine al_opd rfl rfl rfl (ao_boxa (by rfl)) ?_
  first | refine al_opd rfl rfl rfl (ao_as (v := .slice _ _ _) rfl) ?_ | refine al_opd rfl rfl rfl (ao_as (v := v) rfl) ?_
  refine al_opd rfl rfl rfl (ao_as (v := .int _ _) rfl) ?_
  refine al_nilT ?_
  refine aw_seq ?_
  refine aw_seq ?_
  refine aw_region ?_
  first | refine al_opd rfl rfl rfl (ao_mv (v := .slice _ _ _) rfl) ?_ | refine al_opd rfl rfl rfl (ao_mv (v := v) rfl) ?_
  refine al_opd rfl rfl rfl (ao_calld (l03Holds_c (L := L) (v := v) (ks := ks) (hs := hs) (b := false) (ha0.mono (by (repeat (first | exact Same.refl _ _ | assumption | refine Same.push ?_ (by (first | exact Nat.le_refl _ | omega | (simp only [next_push, next_set, next_kill]; omega))) _ | refine Same.set ?_ (by (first | exact Nat.le_refl _ | omega | (simp only [next_push, next_set, next_kill]; omega))) _ | refine Same.kill ?_ (by (first | exact Nat.le_refl _ | omega | (simp only [next_push, next_set, next_kill]; omega))))))) (hh0.mono (by (repeat (first | exact Same.refl _ _ | assumption | refine Same.push ?_ (by (first | exact Nat.le_refl _ | omega | (simp only [next_push, next_set, next_kill]; omega))) _ | refine Same.set ?_ (by (first | exact Nat.le_refl _ | omega | (simp only [next_push, next_set, next_kill]; omega))) _ | refine Same.kill ?_ (by (first | exact Nat.le_refl _ | omega | (simp only [next_push, next_set, next_kill]; omega))))))) (by ((repeat (first | exact blk_push_new _ _ | assumption | apply blk_push_old | apply blk_set_same | refine (blk_set_ne (by first | assumption | omega | (simp only [next_push, next_set, next_kill, ne_eq]; omega))).trans ?_)); (first | done | fail))) hlen hn hL hw (no hv)) Try.call84 rfl rfl) ?_
  refine al_opd rfl rfl rfl (ao_not rfl) ?_
  refine al_nilT ?_
  refine aw_cond rfl (fun h1_ => ?_) (fun h1_ => ?_)
  · try simp only [decide_eq_true_eq, decide_eq_false_iff_not, Bool.not_eq_true', Bool.not_eq_false', Bool.and_eq_true, Bool.or_eq_true, Bool.and_eq_false_iff, Bool.or_eq_false_iff, beq_iff_eq, bne_iff_ne, beq_eq_false_iff_ne, bne_eq_false_iff_eq, ne_eq, Decidable.not_not, Bool.decide_eq_true] at h1_
    refine aw_seq ?_
    refine aw_region ?_
    refine al_opd rfl rfl rfl (ao_lit0 Try.underlying49 Try.sizeOf2 Try.zeroValue2 (by rfl) (by rfl) rfl) ?_
    first | refine al_opd rfl rfl rfl (ao_as (v := .slice _ _ _) rfl) ?_ | refine al_opd rfl rfl rfl (ao_as (v := v) rfl) ?_
    refine al_opd rfl rfl rfl (ao_as (v := .int _ _) rfl) ?_
    refine al_nilT ?_
    refine aw_ret ?_
    refine thenA_r ?_
    refine ends2 rfl (rv_tmp (v := .slice _ _ _) rfl) (rv_tmp (v := .int _ _) rfl) ?_
    exact ⟨by (repeat (first | exact Same.refl _ _ | assumption | refine Same.push ?_ (by (first | exact Nat.le_refl _ | omega | (simp only [next_push, next_set, next_kill]; omega))) _ | refine Same.set ?_ (by (first | exact Nat.le_refl _ | omega | (simp only [next_push, next_set, next_kill]; omega))) _ | refine Same.kill ?_ (by (first | exact Nat.le_refl _ | omega | (simp only [next_push, next_set, next_kill]; omega))))), _, by (first | exact Nat.le_refl _ | omega | (simp only [next_push, next_set, next_kill]; omega)), by ((repeat (first | exact blk_push_new _ _ | assumption | apply blk_push_old | apply blk_set_same | refine (blk_set_ne (by first | assumption | omega | (simp only [next_push, next_set, next_kill, ne_eq]; omega))).trans ?_)); (first | done | fail)), fun ρ h => vr_tup2 (vr_sl h (by omega) (by omega)) (.int _ _)⟩
  · try simp only [decide_eq_true_eq, decide_eq_false_iff_not, Bool.not_eq_true', Bool.not_eq_false', Bool.and_eq_true, Bool.or_eq_true, Bool.and_eq_false_iff, Bool.or_eq_false_iff, beq_iff_eq, bne_iff_ne, beq_eq_false_iff_ne, bne_eq_false_iff_eq, ne_eq, Decidable.not_not, Bool.decide_eq_true] at h1_
    first | done | omega | (exfalso; revert h1_; simp; (first | done | omega))

-- impl.GapsOf
theorem implGaps0_c {L : Int} {v : Value} {ks : List Int} {hs : List Hold} {lb c : Nat} {H : AHeap} (ha0 : Sl H i16 1 v ks) (hk0 : H.blk lb = some (.cells (fl hold hs) 2)) (hcc : hs.length ≤ c) (hlen : ks.length ≤ 4194304) (hn : hs.length ≤ 4194304) (hL : -32768 ≤ L ∧ L ≤ 32767) (hw : holdOk hs) (hv : ¬ (okRope L ks ∧ okHolds ks.length hs)) : ACd Try.prog 53 [.agg #[.int .i16 L, v], .slice (some ⟨lb, 0, none⟩) hs.length c] H (.tuple #[.slice none 0 0, .int .i64 1]) (H) := by
  have hh0 : Sl H hold 2 (.slice (some ⟨lb, 0, none⟩) hs.length c) hs := Sl.full hold_len hk0 rfl rfl rfl
  have hlt0 := AHeap.lt hk0
  refine ac_gc0 (fun β => VR.plainT β (by first | rfl | simp [plainT, plainV, plain1])) (ac_body Try.func53 rfl Try.ntmps53 rfl ?_)
  refine aw_seq ?_
  refine aw_region ?_
  refine al_opd rfl rfl rfl (ao_boxa (by rfl)) ?_
  first | refine al_opd rfl rfl rfl (ao_as (v := .slice _ _ _) rfl) ?_ | refine al_opd rfl rfl rfl (ao_as (v := v) rfl) ?_
  refine al_opd rfl rfl rfl (ao_as (v := .int _ _) rfl) ?_
  refine al_nilT ?_
  refine aw_seq ?_
  refine aw_seq ?_
  refine aw_region ?_
  refine al_opd rfl rfl rfl (ao_loada Try.isAgg37 Try.sizeOf37 rfl (by ((repeat (first | exact blk_push_new _ _ | assumption | apply blk_push_old | apply blk_set_same | refine (blk_set_ne (by first | assumption | omega | (simp only [next_push, next_set, next_kill, ne_eq]; omega))).trans ?_)); (first | done | fail))) (by rfl) (by first | rfl | (simp; (first | done | fail)))) ?_
  first | refine al_opd rfl rfl rfl (ao_mv (v := .slice _ _ _) rfl) ?_ | refine al_opd rfl rfl rfl (ao_mv (v := v) rfl) ?_
  refine al_opd rfl rfl rfl (ao_calld (implValidHolds_c (L := L) (v := v) (ks := ks) (hs := hs) (b := false) (ha0.mono (by (repeat (first | exact Same.refl _ _ | assumption | refine Same.push ?_ (by (first | exact Nat.le_refl _ | omega | (simp only [next_push, next_set, next_kill]; omega))) _ | refine Same.set ?_ (by (first | exact Nat.le_refl _ | omega | (simp only [next_push, next_set, next_kill]; omega))) _ | refine Same.kill ?_ (by (first | exact Nat.le_refl _ | omega | (simp only [next_push, next_set, next_kill]; omega))))))) (by ((repeat (first | exact blk_push_new _ _ | assumption | apply blk_push_old | apply blk_set_same | refine (blk_set_ne (by first | assumption | omega | (simp only [next_push, next_set, next_kill, ne_eq]; omega))).trans ?_)); (first | done | fail))) hlen hn hL hw (no hv)) Try.call47 rfl rfl) ?_
  refine al_opd rfl rfl rfl (ao_not rfl) ?_
  refine al_nilT ?_
  refine aw_cond rfl (fun h1_ => ?_) (fun h1_ => ?_)
  · try simp only [decide_eq_true_eq, decide_eq_false_iff_not, Bool.not_eq_true', Bool.not_eq_false', Bool.and_eq_true, Bool.or_eq_true, Bool.and_eq_false_iff, Bool.or_eq_false_iff, beq_iff_eq, bne_iff_ne, beq_eq_false_iff_ne, bne_eq_false_iff_eq, ne_eq, Decidable.not_not, Bool.decide_eq_true] at h1_
    refine aw_seq ?_
    refine aw_region ?_
    first | refine al_opd rfl rfl rfl (ao_as (v := .slice _ _ _) rfl) ?_ | refine al_opd rfl rfl rfl (ao_as (v := v) rfl) ?_
    refine al_opd rfl rfl rfl (ao_as (v := .int _ _) rfl) ?_
    refine al_nilT ?_
    refine aw_ret ?_
    refine thenA_r ?_
    refine ends2 rfl (rv_tmp (v := .slice _ _ _) rfl) (rv_tmp (v := .int _ _) rfl) ?_
    exact ⟨by first | rfl | (simp [*]; (first | done | fail)), by (repeat (first | exact Same.refl _ _ | assumption | refine Same.push ?_ (by (first | exact Nat.le_refl _ | omega | (simp only [next_push, next_set, next_kill]; omega))) _ | refine Same.set ?_ (by (first | exact Nat.le_refl _ | omega | (simp only [next_push, next_set, next_kill]; omega))) _ | refine Same.kill ?_ (by (first | exact Nat.le_refl _ | omega | (simp only [next_push, next_set, next_kill]; omega)))))⟩
  · try simp only [decide_eq_true_eq, decide_eq_false_iff_not, Bool.not_eq_true', Bool.not_eq_false', Bool.and_eq_true, Bool.or_eq_true, Bool.and_eq_false_iff, Bool.or_eq_false_iff, beq_iff_eq, bne_iff_ne, beq_eq_false_iff_ne, bne_eq_false_iff_eq, ne_eq, Decidable.not_not, Bool.decide_eq_true] at h1_
    first | done | omega | (exfalso; revert h1_; simp; (first | done | omega))

-- impl.GapsOf
theorem implGaps1_c {L : Int} {v : Value} {ks : List Int} {hs : List Hold} {lb c : Nat} {H : AHeap} (ha0 : Sl H i16 1 v ks) (hk0 : H.blk lb = some (.cells (fl hold hs) 2)) (hcc : hs.length ≤ c) (hlen : ks.length ≤ 4194304) (hn : hs.length ≤ 4194304) (hL : -32768 ≤ L ∧ L ≤ 32767) (hw : holdOk hs) (hv : okRope L ks ∧ okHolds ks.length hs) : ACd Try.prog 53 [.agg #[.int .i16 L, v], .slice (some ⟨lb, 0, none⟩) hs.length c] H (.tuple #[.slice (some ⟨H.next, 0, none⟩) (hgaps ks hs).length ((hgaps ks hs).length + 1), .int .i64 0]) (H.push (.cells (fl i64 (hgaps ks hs)) 1)) := by
  have hh0 : Sl H hold 2 (.slice (some ⟨lb, 0, none⟩) hs.length c) hs := Sl.full hold_len hk0 rfl rfl rfl
  have hlt0 := AHeap.lt hk0
  have ⟨v1, v2, v3, v4, v5, v6, v7⟩ := hv.1
  refine ac_gcs (vrl_fl i64_plain (hgaps ks hs)) (ac_body Try.func53 rfl Try.ntmps53 rfl ?_)
  refine aw_seq ?_
  refine aw_region ?_
  refine al_opd rfl rfl rfl (ao_boxa (by rfl)) ?_
  first | refine al_opd rfl rfl rfl (ao_as (v := .slice _ _ _) rfl) ?_ | refine al_opd rfl rfl rfl (ao_as (v := v) rfl) ?_
  refine al_opd rfl rfl rfl (ao_as (v := .int _ _) rfl) ?_
  refine al_nilT ?_
  refine aw_seq ?_
  refine aw_seq ?_
  refine aw_region ?_
  first | refine al_opd rfl rfl rfl (ao_loada Try.isAgg37 Try.sizeOf37 rfl (by ((repeat (first | exact blk_push_new _ _ | assumption | apply blk_push_old | apply blk_set_same | refine (blk_set_ne (by first | assumption | omega | (simp only [next_push, next_set, next_kill, ne_eq]; omega))).trans ?_)); (first | done | fail))) (by rfl) (by first | rfl | (simp; (first | done | fail)))) ?_ | refine al_opd rfl rfl rfl (ao_loadsV (A := #[.int _ _, .slice _ _ _]) Try.isAgg37 Try.sizeOf37 ha rfl hp rfl (by decide)) ?_ | refine al_opd rfl rfl rfl (ao_loadsV (A := #[.int _ _, .slice _ _ _]) Try.isAgg37 Try.sizeOf37 ha rfl hq rfl (by decide)) ?_ | refine al_opd rfl rfl rfl (ao_loadsV (A := #[.int _ _, .slice _ _ _]) Try.isAgg37 Try.sizeOf37 ha rfl hx rfl (by decide)) ?_ | refine al_opd rfl rfl rfl (ao_loadsV (A := #[.int _ _, .slice _ _ _]) Try.isAgg37 Try.sizeOf37 ha rfl hy rfl (by decide)) ?_ | refine al_opd rfl rfl rfl (ao_loadsV (A := #[.int _ _, .slice _ _ _]) Try.isAgg37 Try.sizeOf37 hh rfl hp rfl (by decide)) ?_ | refine al_opd rfl rfl rfl (ao_loadsV (A := #[.int _ _, .slice _ _ _]) Try.isAgg37 Try.sizeOf37 hh rfl hq rfl (by decide)) ?_ | refine al_opd rfl rfl rfl (ao_loadsV (A := #[.int _ _, .slice _ _ _]) Try.isAgg37 Try.sizeOf37 hh rfl hx rfl (by decide)) ?_ | refine al_opd rfl rfl rfl (ao_loadsV (A := #[.int _ _, .slice _ _ _]) Try.isAgg37 Try.sizeOf37 hh rfl hy rfl (by decide)) ?_
  first | refine al_opd rfl rfl rfl (ao_mv (v := .slice _ _ _) rfl) ?_ | refine al_opd rfl rfl rfl (ao_mv (v := v) rfl) ?_
  refine al_opd rfl rfl rfl (ao_calld (implValidHolds_c (L := L) (v := v) (ks := ks) (hs := hs) (b := true) (ha0.mono (by (repeat (first | exact Same.refl _ _ | assumption | refine Same.push ?_ (by (first | exact Nat.le_refl _ | omega | (simp only [next_push, next_set, next_kill]; omega))) _ | refine Same.set ?_ (by (first | exact Nat.le_refl _ | omega | (simp only [next_push, next_set, next_kill]; omega))) _ | refine Same.kill ?_ (by (first | exact Nat.le_refl _ | omega | (simp only [next_push, next_set, next_kill]; omega))))))) (by ((repeat (first | exact blk_push_new _ _ | assumption | apply blk_push_old | apply blk_set_same | refine (blk_set_ne (by first | assumption | omega | (simp only [next_push, next_set, next_kill, ne_eq]; omega))).trans ?_)); (first | done | fail))) hlen hn hL hw (yes hv)) Try.call47 rfl rfl) ?_
  refine al_opd rfl rfl rfl (ao_not rfl) ?_
  refine al_nilT ?_
  refine aw_cond rfl (fun h1_ => ?_) (fun h1_ => ?_)
  · try simp only [decide_eq_true_eq, decide_eq_false_iff_not, Bool.not_eq_true', Bool.not_eq_false', Bool.and_eq_true, Bool.or_eq_true, Bool.and_eq_false_iff, Bool.or_eq_false_iff, beq_iff_eq, bne_iff_ne, beq_eq_false_iff_ne, bne_eq_false_iff_eq, ne_eq, Decidable.not_not, Bool.decide_eq_true] at h1_
    first | done | omega | (exfalso; revert h1_; simp; (first | done | omega))
  · try simp only [decide_eq_true_eq, decide_eq_false_iff_not, Bool.not_eq_true', Bool.not_eq_false', Bool.and_eq_true, Bool.or_eq_true, Bool.and_eq_false_iff, Bool.or_eq_false_iff, beq_iff_eq, bne_iff_ne, beq_eq_false_iff_ne, bne_eq_false_iff_eq, ne_eq, Decidable.not_not, Bool.decide_eq_true] at h1_
    refine aw_skipT ?_
    refine aw_seq ?_
    refine aw_region ?_
    refine al_opd rfl rfl rfl (ao_lit0 Try.underlying49 Try.sizeOf2 Try.zeroValue2 (by rfl) (by rfl) rfl) ?_
    first | refine al_opd rfl rfl rfl (ao_as (v := .slice _ _ _) rfl) ?_ | refine al_opd rfl rfl rfl (ao_as (v := v) rfl) ?_
    refine al_nilT ?_
    refine aw_seq ?_
    refine aw_seq ?_
    refine aw_region ?_
    refine al_opd rfl rfl rfl (ao_as (v := .int _ _) rfl) ?_
    refine al_nilT ?_
    refine aw_block ?_
    refine aw_loop (fun (gk : Nat) (fr : AFr) (G : AHeap) => ∃ get : Nat → Value, fr = ⟨44, get⟩ ∧ (∃ (k pb c' : Nat), (k = 0 ∨ k + 1 ≤ hs.length) ∧ gk = hs.length - k ∧ H.next + 1 ≤ pb ∧ Same (H.next + 1) (H.push (.cells [.int .i16 L, v] 1)) G ∧ G.blk pb = some (.cells (fl i64 ((hgaps ks hs).take k)) 1) ∧ k ≤ c' ∧ get 1 = .slice (some ⟨lb, 0, none⟩) hs.length c ∧ get 2 = .pointer (some ⟨H.next, 0, none⟩) ∧ get 6 = .slice (some ⟨pb, 0, none⟩) k c' ∧ get 7 = .int .i64 ((k + 1 : Nat) : Int))) (hs.length) ⟨_, rfl, ?_⟩ ?_
    · exact ⟨0, _, _, .inl rfl, rfl, by (first | exact Nat.le_refl _ | omega | (simp only [next_push, next_set, next_kill]; omega)), by (repeat (first | exact Same.refl _ _ | assumption | refine Same.push ?_ (by (first | exact Nat.le_refl _ | omega | (simp only [next_push, next_set, next_kill]; omega))) _ | refine Same.set ?_ (by (first | exact Nat.le_refl _ | omega | (simp only [next_push, next_set, next_kill]; omega))) _ | refine Same.kill ?_ (by (first | exact Nat.le_refl _ | omega | (simp only [next_push, next_set, next_kill]; omega))))), by ((repeat (first | exact blk_push_new _ _ | assumption | apply blk_push_old | apply blk_set_same | refine (blk_set_ne (by first | assumption | omega | (simp only [next_push, next_set, next_kill, ne_eq]; omega))).trans ?_)); (first | done | fail)), Nat.le_refl _, rfl, rfl, rfl, rfl⟩
    · rintro gk fr G ⟨get, rfl, k, pb, c', hk, rfl, hpb, hG, hkb, hc, g1, g2, g4, g5⟩
      have hlt := AHeap.lt hkb
      have hs0 : Same H.next H G := Same.trans ((Same.refl _ _).push (Nat.le_refl _) _) hG (by omega)
      have hbx : G.blk H.next = some (.cells [.int .i16 L, v] 1) := (hG _ (by omega)).trans (blk_push_new _ _)
      have ha : Sl G i16 1 v ks := ha0.mono hs0
      have hkG : G.blk lb = some (.cells (fl hold hs) 2) := (hs0 _ hlt0).trans hk0
      have hh : Sl G hold 2 (.slice (some ⟨lb, 0, none⟩) hs.length c) hs := Sl.full hold_len hkG rfl rfl rfl
      have hgl := hgaps_len ks hs
      refine aw_slot (d := 1) (v := .slice (some ⟨lb, 0, none⟩) hs.length c) (by first | assumption | rfl) ?_
      refine aw_slot (d := 2) (v := .pointer (some ⟨H.next, 0, none⟩)) (by first | assumption | rfl) ?_
      refine aw_slot (d := 6) (v := .slice (some ⟨pb, 0, none⟩) k c') (by first | assumption | rfl) ?_
      refine aw_slot (d := 7) (v := .int .i64 ((k + 1 : Nat) : Int)) (by first | assumption | rfl) ?_
      refine aw_seq ?_
      refine aw_seq ?_
      refine aw_region ?_
      refine al_opd rfl rfl rfl (ao_mv (v := .int _ _) rfl) ?_
      first | refine al_opd rfl rfl rfl (ao_mv (v := .slice _ _ _) rfl) ?_ | refine al_opd rfl rfl rfl (ao_mv (v := v) rfl) ?_
      first | refine al_opd rfl rfl rfl (ao_lenS Try.underlying28 (by rfl)) ?_ | refine al_opd rfl rfl rfl (ao_lenN Try.underlying28 (by rfl)) ?_ | refine al_opd rfl rfl rfl (ao_lenV Try.underlying28 rfl ha) ?_ | refine al_opd rfl rfl rfl (ao_lenV Try.underlying28 rfl hh) ?_
      refine al_opd rfl rfl rfl (ao_lss rfl rfl) ?_
      refine al_nilT ?_
      refine aw_cond rfl (fun h2_ => ?_) (fun h2_ => ?_)
      · try simp only [decide_eq_true_eq, decide_eq_false_iff_not, Bool.not_eq_true', Bool.not_eq_false', Bool.and_eq_true, Bool.or_eq_true, Bool.and_eq_false_iff, Bool.or_eq_false_iff, beq_iff_eq, bne_iff_ne, beq_eq_false_iff_ne, bne_eq_false_iff_eq, ne_eq, Decidable.not_not, Bool.decide_eq_true] at h2_
        obtain ⟨x, hx⟩ := get_lt (show k < hs.length by omega)
        obtain ⟨y, hy⟩ := get_lt (show k + 1 < hs.length by omega)
        have ⟨⟨rx1, rx2, rx3, rx4⟩, _⟩ := hv.2 k x hx
        have ⟨⟨ry1, ry2, ry3, ry4⟩, _⟩ := hv.2 (k + 1) y hy
        obtain ⟨p, hp⟩ := get_lt (show x.knot.toNat < ks.length by omega)
        obtain ⟨q, hq⟩ := get_lt (show y.knot.toNat < ks.length by omega)
        have bp := hv.1.bnd hp
        have bq := hv.1.bnd hq
        refine aw_skipT ?_
        refine aw_seq ?_
        refine aw_block ?_
        refine aw_draw (m := 23) mo (by kernel_rfl) rfl ?_
        first | refine dw_opd rfl rfl rfl (ao_mv (v := .slice _ _ _) rfl) ?_ | refine dw_opd rfl rfl rfl (ao_mv (v := v) rfl) ?_
        refine dw_opd rfl rfl rfl (ao_fieldAddr fo_37_1 rfl) ?_
        first | refine dw_opd rfl rfl rfl (ao_load (v := .slice _ _ _) Try.isAgg32 (by rfl) (by ((repeat (first | exact blk_push_new _ _ | assumption | apply blk_push_old | apply blk_set_same | refine (blk_set_ne (by first | assumption | omega | (simp only [next_push, next_set, next_kill, ne_eq]; omega))).trans ?_)); (first | done | fail))) (by rfl) (by first | rfl | (simp; (first | done | fail)))) ?_ | refine dw_opd rfl rfl rfl (ao_load (v := v) Try.isAgg32 (by rfl) (by ((repeat (first | exact blk_push_new _ _ | assumption | apply blk_push_old | apply blk_set_same | refine (blk_set_ne (by first | assumption | omega | (simp only [next_push, next_set, next_kill, ne_eq]; omega))).trans ?_)); (first | done | fail))) (by rfl) (by first | rfl | (simp; (first | done | fail)))) ?_ | refine dw_opd rfl rfl rfl (ao_loadV (j := 0) (u := .slice _ _ _) Try.isAgg32 ha rfl rfl hp rfl) ?_ | refine dw_opd rfl rfl rfl (ao_loadV (j := 1) (u := .slice _ _ _) Try.isAgg32 ha rfl rfl hp rfl) ?_ | refine dw_opd rfl rfl rfl (ao_loadV (j := 0) (u := .slice _ _ _) Try.isAgg32 ha rfl rfl hq rfl) ?_ | refine dw_opd rfl rfl rfl (ao_loadV (j := 1) (u := .slice _ _ _) Try.isAgg32 ha rfl rfl hq rfl) ?_ | refine dw_opd rfl rfl rfl (ao_loadV (j := 0) (u := .slice _ _ _) Try.isAgg32 ha rfl rfl hx rfl) ?_ | refine dw_opd rfl rfl rfl (ao_loadV (j := 1) (u := .slice _ _ _) Try.isAgg32 ha rfl rfl hx rfl) ?_ | refine dw_opd rfl rfl rfl (ao_loadV (j := 0) (u := .slice _ _ _) Try.isAgg32 ha rfl rfl hy rfl) ?_ | refine dw_opd rfl rfl rfl (ao_loadV (j := 1) (u := .slice _ _ _) Try.isAgg32 ha rfl rfl hy rfl) ?_ | refine dw_opd rfl rfl rfl (ao_loadV (j := 0) (u := .slice _ _ _) Try.isAgg32 hh rfl rfl hp rfl) ?_ | refine dw_opd rfl rfl rfl (ao_loadV (j := 1) (u := .slice _ _ _) Try.isAgg32 hh rfl rfl hp rfl) ?_ | refine dw_opd rfl rfl rfl (ao_loadV (j := 0) (u := .slice _ _ _) Try.isAgg32 hh rfl rfl hq rfl) ?_ | refine dw_opd rfl rfl rfl (ao_loadV (j := 1) (u := .slice _ _ _) Try.isAgg32 hh rfl rfl hq rfl) ?_ | refine dw_opd rfl rfl rfl (ao_loadV (j := 0) (u := .slice _ _ _) Try.isAgg32 hh rfl rfl hx rfl) ?_ | refine dw_opd rfl rfl rfl (ao_loadV (j := 1) (u := .slice _ _ _) Try.isAgg32 hh rfl rfl hx rfl) ?_ | refine dw_opd rfl rfl rfl (ao_loadV (j := 0) (u := .slice _ _ _) Try.isAgg32 hh rfl rfl hy rfl) ?_ | refine dw_opd rfl rfl rfl (ao_loadV (j := 1) (u := .slice _ _ _) Try.isAgg32 hh rfl rfl hy rfl) ?_
        first | refine dw_opd rfl rfl rfl (ao_mv (v := .slice _ _ _) rfl) ?_ | refine dw_opd rfl rfl rfl (ao_mv (v := v) rfl) ?_
        refine dw_opd rfl rfl rfl (ao_mv (v := .int _ _) rfl) ?_
        first | refine dw_opd rfl rfl rfl (ao_indexAddrS Try.underlying28 Try.sizeOf81 rfl rfl (by first | omega | decide | (simp; omega)) (by first | omega | decide | (simp; omega))) ?_ | refine dw_opd rfl rfl rfl (ao_indexV Try.underlying28 Try.sizeOf81 rfl rfl ha (by first | omega | decide | (simp; omega)) (by first | omega | decide | (simp; omega))) ?_ | refine dw_opd rfl rfl rfl (ao_indexV Try.underlying28 Try.sizeOf81 rfl rfl hh (by first | omega | decide | (simp; omega)) (by first | omega | decide | (simp; omega))) ?_
        refine dw_opd rfl rfl rfl (ao_fieldAddr fo_81_1 rfl) ?_
        first | refine dw_opd rfl rfl rfl (ao_load (v := .int _ _) Try.isAgg79 (by rfl) (by ((repeat (first | exact blk_push_new _ _ | assumption | apply blk_push_old | apply blk_set_same | refine (blk_set_ne (by first | assumption | omega | (simp only [next_push, next_set, next_kill, ne_eq]; omega))).trans ?_)); (first | done | fail))) (by rfl) (by first | rfl | (simp; (first | done | fail)))) ?_ | refine dw_opd rfl rfl rfl (ao_loadV (j := 0) (u := .int _ _) Try.isAgg79 ha rfl rfl hp rfl) ?_ | refine dw_opd rfl rfl rfl (ao_loadV (j := 1) (u := .int _ _) Try.isAgg79 ha rfl rfl hp rfl) ?_ | refine dw_opd rfl rfl rfl (ao_loadV (j := 0) (u := .int _ _) Try.isAgg79 ha rfl rfl hq rfl) ?_ | refine dw_opd rfl rfl rfl (ao_loadV (j := 1) (u := .int _ _) Try.isAgg79 ha rfl rfl hq rfl) ?_ | refine dw_opd rfl rfl rfl (ao_loadV (j := 0) (u := .int _ _) Try.isAgg79 ha rfl rfl hx rfl) ?_ | refine dw_opd rfl rfl rfl (ao_loadV (j := 1) (u := .int _ _) Try.isAgg79 ha rfl rfl hx rfl) ?_ | refine dw_opd rfl rfl rfl (ao_loadV (j := 0) (u := .int _ _) Try.isAgg79 ha rfl rfl hy rfl) ?_ | refine dw_opd rfl rfl rfl (ao_loadV (j := 1) (u := .int _ _) Try.isAgg79 ha rfl rfl hy rfl) ?_ | refine dw_opd rfl rfl rfl (ao_loadV (j := 0) (u := .int _ _) Try.isAgg79 hh rfl rfl hp rfl) ?_ | refine dw_opd rfl rfl rfl (ao_loadV (j := 1) (u := .int _ _) Try.isAgg79 hh rfl rfl hp rfl) ?_ | refine dw_opd rfl rfl rfl (ao_loadV (j := 0) (u := .int _ _) Try.isAgg79 hh rfl rfl hq rfl) ?_ | refine dw_opd rfl rfl rfl (ao_loadV (j := 1) (u := .int _ _) Try.isAgg79 hh rfl rfl hq rfl) ?_ | refine dw_opd rfl rfl rfl (ao_loadV (j := 0) (u := .int _ _) Try.isAgg79 hh rfl rfl hx rfl) ?_ | refine dw_opd rfl rfl rfl (ao_loadV (j := 1) (u := .int _ _) Try.isAgg79 hh rfl rfl hx rfl) ?_ | refine dw_opd rfl rfl rfl (ao_loadV (j := 0) (u := .int _ _) Try.isAgg79 hh rfl rfl hy rfl) ?_ | refine dw_opd rfl rfl rfl (ao_loadV (j := 1) (u := .int _ _) Try.isAgg79 hh rfl rfl hy rfl) ?_
        first | refine dw_opd rfl rfl rfl (ao_indexAddrS Try.underlying32 Try.sizeOf31 rfl rfl (by first | omega | decide | (simp; omega)) (by first | omega | decide | (simp; omega))) ?_ | refine dw_opd rfl rfl rfl (ao_indexV Try.underlying32 Try.sizeOf31 rfl rfl ha (by first | omega | decide | (simp; omega)) (by first | omega | decide | (simp; omega))) ?_ | refine dw_opd rfl rfl rfl (ao_indexV Try.underlying32 Try.sizeOf31 rfl rfl hh (by first | omega | decide | (simp; omega)) (by first | omega | decide | (simp; omega))) ?_
        first | refine dw_opd rfl rfl rfl (ao_load (v := .int _ _) Try.isAgg31 (by rfl) (by ((repeat (first | exact blk_push_new _ _ | assumption | apply blk_push_old | apply blk_set_same | refine (blk_set_ne (by first | assumption | omega | (simp only [next_push, next_set, next_kill, ne_eq]; omega))).trans ?_)); (first | done | fail))) (by rfl) (by first | rfl | (simp; (first | done | fail)))) ?_ | refine dw_opd rfl rfl rfl (ao_loadV (j := 0) (u := .int _ _) Try.isAgg31 ha rfl rfl hp rfl) ?_ | refine dw_opd rfl rfl rfl (ao_loadV (j := 1) (u := .int _ _) Try.isAgg31 ha rfl rfl hp rfl) ?_ | refine dw_opd rfl rfl rfl (ao_loadV (j := 0) (u := .int _ _) Try.isAgg31 ha rfl rfl hq rfl) ?_ | refine dw_opd rfl rfl rfl (ao_loadV (j := 1) (u := .int _ _) Try.isAgg31 ha rfl rfl hq rfl) ?_ | refine dw_opd rfl rfl rfl (ao_loadV (j := 0) (u := .int _ _) Try.isAgg31 ha rfl rfl hx rfl) ?_ | refine dw_opd rfl rfl rfl (ao_loadV (j := 1) (u := .int _ _) Try.isAgg31 ha rfl rfl hx rfl) ?_ | refine dw_opd rfl rfl rfl (ao_loadV (j := 0) (u := .int _ _) Try.isAgg31 ha rfl rfl hy rfl) ?_ | refine dw_opd rfl rfl rfl (ao_loadV (j := 1) (u := .int _ _) Try.isAgg31 ha rfl rfl hy rfl) ?_ | refine dw_opd rfl rfl rfl (ao_loadV (j := 0) (u := .int _ _) Try.isAgg31 hh rfl rfl hp rfl) ?_ | refine dw_opd rfl rfl rfl (ao_loadV (j := 1) (u := .int _ _) Try.isAgg31 hh rfl rfl hp rfl) ?_ | refine dw_opd rfl rfl rfl (ao_loadV (j := 0) (u := .int _ _) Try.isAgg31 hh rfl rfl hq rfl) ?_ | refine dw_opd rfl rfl rfl (ao_loadV (j := 1) (u := .int _ _) Try.isAgg31 hh rfl rfl hq rfl) ?_ | refine dw_opd rfl rfl rfl (ao_loadV (j := 0) (u := .int _ _) Try.isAgg31 hh rfl rfl hx rfl) ?_ | refine dw_opd rfl rfl rfl (ao_loadV (j := 1) (u := .int _ _) Try.isAgg31 hh rfl rfl hx rfl) ?_ | refine dw_opd rfl rfl rfl (ao_loadV (j := 0) (u := .int _ _) Try.isAgg31 hh rfl rfl hy rfl) ?_ | refine dw_opd rfl rfl rfl (ao_loadV (j := 1) (u := .int _ _) Try.isAgg31 hh rfl rfl hy rfl) ?_
        refine dw_opd rfl rfl rfl (ao_fieldAddr fo_37_1 rfl) ?_
        first | refine dw_opd rfl rfl rfl (ao_load (v := .slice _ _ _) Try.isAgg32 (by rfl) (by ((repeat (first | exact blk_push_new _ _ | assumption | apply blk_push_old | apply blk_set_same | refine (blk_set_ne (by first | assumption | omega | (simp only [next_push, next_set, next_kill, ne_eq]; omega))).trans ?_)); (first | done | fail))) (by rfl) (by first | rfl | (simp; (first | done | fail)))) ?_ | refine dw_opd rfl rfl rfl (ao_load (v := v) Try.isAgg32 (by rfl) (by ((repeat (first | exact blk_push_new _ _ | assumption | apply blk_push_old | apply blk_set_same | refine (blk_set_ne (by first | assumption | omega | (simp only [next_push, next_set, next_kill, ne_eq]; omega))).trans ?_)); (first | done | fail))) (by rfl) (by first | rfl | (simp; (first | done | fail)))) ?_ | refine dw_opd rfl rfl rfl (ao_loadV (j := 0) (u := .slice _ _ _) Try.isAgg32 ha rfl rfl hp rfl) ?_ | refine dw_opd rfl rfl rfl (ao_loadV (j := 1) (u := .slice _ _ _) Try.isAgg32 ha rfl rfl hp rfl) ?_ | refine dw_opd rfl rfl rfl (ao_loadV (j := 0) (u := .slice _ _ _) Try.isAgg32 ha rfl rfl hq rfl) ?_ | refine dw_opd rfl rfl rfl (ao_loadV (j := 1) (u := .slice _ _ _) Try.isAgg32 ha rfl rfl hq rfl) ?_ | refine dw_opd rfl rfl rfl (ao_loadV (j := 0) (u := .slice _ _ _) Try.isAgg32 ha rfl rfl hx rfl) ?_ | refine dw_opd rfl rfl rfl (ao_loadV (j := 1) (u := .slice _ _ _) Try.isAgg32 ha rfl rfl hx rfl) ?_ | refine dw_opd rfl rfl rfl (ao_loadV (j := 0) (u := .slice _ _ _) Try.isAgg32 ha rfl rfl hy rfl) ?_ | refine dw_opd rfl rfl rfl (ao_loadV (j := 1) (u := .slice _ _ _) Try.isAgg32 ha rfl rfl hy rfl) ?_ | refine dw_opd rfl rfl rfl (ao_loadV (j := 0) (u := .slice _ _ _) Try.isAgg32 hh rfl rfl hp rfl) ?_ | refine dw_opd rfl rfl rfl (ao_loadV (j := 1) (u := .slice _ _ _) Try.isAgg32 hh rfl rfl hp rfl) ?_ | refine dw_opd rfl rfl rfl (ao_loadV (j := 0) (u := .slice _ _ _) Try.isAgg32 hh rfl rfl hq rfl) ?_ | refine dw_opd rfl rfl rfl (ao_loadV (j := 1) (u := .slice _ _ _) Try.isAgg32 hh rfl rfl hq rfl) ?_ | refine dw_opd rfl rfl rfl (ao_loadV (j := 0) (u := .slice _ _ _) Try.isAgg32 hh rfl rfl hx rfl) ?_ | refine dw_opd rfl rfl rfl (ao_loadV (j := 1) (u := .slice _ _ _) Try.isAgg32 hh rfl rfl hx rfl) ?_ | refine dw_opd rfl rfl rfl (ao_loadV (j := 0) (u := .slice _ _ _) Try.isAgg32 hh rfl rfl hy rfl) ?_ | refine dw_opd rfl rfl rfl (ao_loadV (j := 1) (u := .slice _ _ _) Try.isAgg32 hh rfl rfl hy rfl) ?_
        first | refine dw_opd rfl rfl rfl (ao_mv (v := .slice _ _ _) rfl) ?_ | refine dw_opd rfl rfl rfl (ao_mv (v := v) rfl) ?_
        refine dw_opd rfl rfl rfl (ao_mv (v := .int _ _) rfl) ?_
        refine dw_opd rfl rfl rfl ((ao_sub rfl rfl).val (sub1 k (by omega))) ?_
        first | refine dw_opd rfl rfl rfl (ao_indexAddrS Try.underlying28 Try.sizeOf81 rfl rfl (by first | omega | decide | (simp; omega)) (by first | omega | decide | (simp; omega))) ?_ | refine dw_opd rfl rfl rfl (ao_indexV Try.underlying28 Try.sizeOf81 rfl rfl ha (by first | omega | decide | (simp; omega)) (by first | omega | decide | (simp; omega))) ?_ | refine dw_opd rfl rfl rfl (ao_indexV Try.underlying28 Try.sizeOf81 rfl rfl hh (by first | omega | decide | (simp; omega)) (by first | omega | decide | (simp; omega))) ?_
        refine dw_opd rfl rfl rfl (ao_fieldAddr fo_81_1 rfl) ?_
        first | refine dw_opd rfl rfl rfl (ao_load (v := .int _ _) Try.isAgg79 (by rfl) (by ((repeat (first | exact blk_push_new _ _ | assumption | apply blk_push_old | apply blk_set_same | refine (blk_set_ne (by first | assumption | omega | (simp only [next_push, next_set, next_kill, ne_eq]; omega))).trans ?_)); (first | done | fail))) (by rfl) (by first | rfl | (simp; (first | done | fail)))) ?_ | refine dw_opd rfl rfl rfl (ao_loadV (j := 0) (u := .int _ _) Try.isAgg79 ha rfl rfl hp rfl) ?_ | refine dw_opd rfl rfl rfl (ao_loadV (j := 1) (u := .int _ _) Try.isAgg79 ha rfl rfl hp rfl) ?_ | refine dw_opd rfl rfl rfl (ao_loadV (j := 0) (u := .int _ _) Try.isAgg79 ha rfl rfl hq rfl) ?_ | refine dw_opd rfl rfl rfl (ao_loadV (j := 1) (u := .int _ _) Try.isAgg79 ha rfl rfl hq rfl) ?_ | refine dw_opd rfl rfl rfl (ao_loadV (j := 0) (u := .int _ _) Try.isAgg79 ha rfl rfl hx rfl) ?_ | refine dw_opd rfl rfl rfl (ao_loadV (j := 1) (u := .int _ _) Try.isAgg79 ha rfl rfl hx rfl) ?_ | refine dw_opd rfl rfl rfl (ao_loadV (j := 0) (u := .int _ _) Try.isAgg79 ha rfl rfl hy rfl) ?_ | refine dw_opd rfl rfl rfl (ao_loadV (j := 1) (u := .int _ _) Try.isAgg79 ha rfl rfl hy rfl) ?_ | refine dw_opd rfl rfl rfl (ao_loadV (j := 0) (u := .int _ _) Try.isAgg79 hh rfl rfl hp rfl) ?_ | refine dw_opd rfl rfl rfl (ao_loadV (j := 1) (u := .int _ _) Try.isAgg79 hh rfl rfl hp rfl) ?_ | refine dw_opd rfl rfl rfl (ao_loadV (j := 0) (u := .int _ _) Try.isAgg79 hh rfl rfl hq rfl) ?_ | refine dw_opd rfl rfl rfl (ao_loadV (j := 1) (u := .int _ _) Try.isAgg79 hh rfl rfl hq rfl) ?_ | refine dw_opd rfl rfl rfl (ao_loadV (j := 0) (u := .int _ _) Try.isAgg79 hh rfl rfl hx rfl) ?_ | refine dw_opd rfl rfl rfl (ao_loadV (j := 1) (u := .int _ _) Try.isAgg79 hh rfl rfl hx rfl) ?_ | refine dw_opd rfl rfl rfl (ao_loadV (j := 0) (u := .int _ _) Try.isAgg79 hh rfl rfl hy rfl) ?_ | refine dw_opd rfl rfl rfl (ao_loadV (j := 1) (u := .int _ _) Try.isAgg79 hh rfl rfl hy rfl) ?_
        first | refine dw_opd rfl rfl rfl (ao_indexAddrS Try.underlying32 Try.sizeOf31 rfl rfl (by first | omega | decide | (simp; omega)) (by first | omega | decide | (simp; omega))) ?_ | refine dw_opd rfl rfl rfl (ao_indexV Try.underlying32 Try.sizeOf31 rfl rfl ha (by first | omega | decide | (simp; omega)) (by first | omega | decide | (simp; omega))) ?_ | refine dw_opd rfl rfl rfl (ao_indexV Try.underlying32 Try.sizeOf31 rfl rfl hh (by first | omega | decide | (simp; omega)) (by first | omega | decide | (simp; omega))) ?_
        first | refine dw_opd rfl rfl rfl (ao_load (v := .int _ _) Try.isAgg31 (by rfl) (by ((repeat (first | exact blk_push_new _ _ | assumption | apply blk_push_old | apply blk_set_same | refine (blk_set_ne (by first | assumption | omega | (simp only [next_push, next_set, next_kill, ne_eq]; omega))).trans ?_)); (first | done | fail))) (by rfl) (by first | rfl | (simp; (first | done | fail)))) ?_ | refine dw_opd rfl rfl rfl (ao_loadV (j := 0) (u := .int _ _) Try.isAgg31 ha rfl rfl hp rfl) ?_ | refine dw_opd rfl rfl rfl (ao_loadV (j := 1) (u := .int _ _) Try.isAgg31 ha rfl rfl hp rfl) ?_ | refine dw_opd rfl rfl rfl (ao_loadV (j := 0) (u := .int _ _) Try.isAgg31 ha rfl rfl hq rfl) ?_ | refine dw_opd rfl rfl rfl (ao_loadV (j := 1) (u := .int _ _) Try.isAgg31 ha rfl rfl hq rfl) ?_ | refine dw_opd rfl rfl rfl (ao_loadV (j := 0) (u := .int _ _) Try.isAgg31 ha rfl rfl hx rfl) ?_ | refine dw_opd rfl rfl rfl (ao_loadV (j := 1) (u := .int _ _) Try.isAgg31 ha rfl rfl hx rfl) ?_ | refine dw_opd rfl rfl rfl (ao_loadV (j := 0) (u := .int _ _) Try.isAgg31 ha rfl rfl hy rfl) ?_ | refine dw_opd rfl rfl rfl (ao_loadV (j := 1) (u := .int _ _) Try.isAgg31 ha rfl rfl hy rfl) ?_ | refine dw_opd rfl rfl rfl (ao_loadV (j := 0) (u := .int _ _) Try.isAgg31 hh rfl rfl hp rfl) ?_ | refine dw_opd rfl rfl rfl (ao_loadV (j := 1) (u := .int _ _) Try.isAgg31 hh rfl rfl hp rfl) ?_ | refine dw_opd rfl rfl rfl (ao_loadV (j := 0) (u := .int _ _) Try.isAgg31 hh rfl rfl hq rfl) ?_ | refine dw_opd rfl rfl rfl (ao_loadV (j := 1) (u := .int _ _) Try.isAgg31 hh rfl rfl hq rfl) ?_ | refine dw_opd rfl rfl rfl (ao_loadV (j := 0) (u := .int _ _) Try.isAgg31 hh rfl rfl hx rfl) ?_ | refine dw_opd rfl rfl rfl (ao_loadV (j := 1) (u := .int _ _) Try.isAgg31 hh rfl rfl hx rfl) ?_ | refine dw_opd rfl rfl rfl (ao_loadV (j := 0) (u := .int _ _) Try.isAgg31 hh rfl rfl hy rfl) ?_ | refine dw_opd rfl rfl rfl (ao_loadV (j := 1) (u := .int _ _) Try.isAgg31 hh rfl rfl hy rfl) ?_
        first | refine dw_opd rfl rfl rfl ((ao_sub rfl rfl).val (nw_i16 (by first | omega | decide) (by first | omega | decide))) ?_ | refine dw_opd rfl rfl rfl (ao_sub rfl rfl) ?_
        first | refine dw_opd rfl rfl rfl ((ao_conv ⟨_, Try.underlying31⟩ Try.underlying2 rfl).val (nw_i64 (by first | omega | decide) (by first | omega | decide))) ?_ | refine dw_opd rfl rfl rfl (ao_conv ⟨_, Try.underlying31⟩ Try.underlying2 rfl) ?_
        refine dw_opn rfl rfl rfl (ao_lit1 (v := .int _ _) Try.underlying49 Try.sizeOf2 Try.zeroValue2 (by rfl) (by rfl) rfl rfl (by rfl) (by first | rfl | (simp; (first | done | fail)))) ?_
        refine dw_end ?_
        refine al_opd rfl rfl rfl (ao_appC Try.underlying49 ⟨_, Try.underlying49⟩ elem2 (by rfl) (by rfl) (by ((repeat (first | exact blk_push_new _ _ | assumption | apply blk_push_old | apply blk_set_same | refine (blk_set_ne (by first | assumption | omega | (simp only [next_push, next_set, next_kill, ne_eq]; omega))).trans ?_)); (first | done | fail))) (by (rw [fl_len i64_len, List.length_take]; omega)) (by first | exact src_all (by ((repeat (first | exact blk_push_new _ _ | assumption | apply blk_push_old | apply blk_set_same | refine (blk_set_ne (by first | assumption | omega | (simp only [next_push, next_set, next_kill, ne_eq]; omega))).trans ?_)); (first | done | fail))) (by rfl) (by rfl) | exact src_all (by ((repeat (first | exact blk_push_new _ _ | assumption | apply blk_push_old | apply blk_set_same | refine (blk_set_ne (by first | assumption | omega | (simp only [next_push, next_set, next_kill, ne_eq]; omega))).trans ?_)); (first | done | fail))) (by rfl) (by simp)) (by first | rfl | simp [isOne]) (by first | omega | decide) (by first | omega | decide)) ?_
        first | refine al_opd rfl rfl rfl (ao_as (v := .slice _ _ _) rfl) ?_ | refine al_opd rfl rfl rfl (ao_as (v := v) rfl) ?_
        refine al_nilB ?_
        refine thenA_n ?_
        refine aw_region ?_
        refine al_opd rfl rfl rfl (ao_mv (v := .int _ _) rfl) ?_
        first | refine al_opd rfl rfl rfl ((ao_add rfl rfl).val (nw_i64 (by first | omega | decide) (by first | omega | decide))) ?_ | refine al_opd rfl rfl rfl (ao_add rfl rfl) ?_
        refine al_opd rfl rfl rfl (ao_as (v := .int _ _) rfl) ?_
        refine al_nilT ?_
        refine ⟨_, ?_, _, rfl, k + 1, _, _, by omega, rfl, by (first | exact Nat.le_refl _ | omega | (simp only [next_push, next_set, next_kill]; omega)), by (repeat (first | exact Same.refl _ _ | assumption | refine Same.push ?_ (by (first | exact Nat.le_refl _ | omega | (simp only [next_push, next_set, next_kill]; omega))) _ | refine Same.set ?_ (by (first | exact Nat.le_refl _ | omega | (simp only [next_push, next_set, next_kill]; omega))) _ | refine Same.kill ?_ (by (first | exact Nat.le_refl _ | omega | (simp only [next_push, next_set, next_kill]; omega))))), ?_, by omega, rfl, rfl, rfl, by rfl⟩
        · omega
        · rw [← app_snoc (e := i64) (hgaps_at hx hy hp hq)]; exact blk_push_new _ _
      · try simp only [decide_eq_true_eq, decide_eq_false_iff_not, Bool.not_eq_true', Bool.not_eq_false', Bool.and_eq_true, Bool.or_eq_true, Bool.and_eq_false_iff, Bool.or_eq_false_iff, beq_iff_eq, bne_iff_ne, beq_eq_false_iff_ne, bne_eq_false_iff_eq, ne_eq, Decidable.not_not, Bool.decide_eq_true] at h2_
        refine aw_exit ?_
        refine thenA_x ?_
        refine thenA_x ?_
        refine blockA_hit ?_
        refine thenA_n ?_
        refine aw_seq ?_
        refine aw_region ?_
        first | refine al_opd rfl rfl rfl (ao_mv (v := .slice _ _ _) rfl) ?_ | refine al_opd rfl rfl rfl (ao_mv (v := v) rfl) ?_
        first | refine al_opd rfl rfl rfl (ao_as (v := .slice _ _ _) rfl) ?_ | refine al_opd rfl rfl rfl (ao_as (v := v) rfl) ?_
        refine al_opd rfl rfl rfl (ao_as (v := .int _ _) rfl) ?_
        refine al_nilT ?_
        refine aw_ret ?_
        refine ends2 rfl (rv_tmp (v := .slice _ _ _) rfl) (rv_tmp (v := .int _ _) rfl) ?_
        rw [List.take_of_length_le (by omega)] at hkb
        obtain rfl : k = (hgaps ks hs).length := by omega
        exact ⟨hs0, pb, by omega, hkb, fun ρ h => vr_tup2 (vr_sl h (by omega) (by omega)) (.int _ _)⟩

-- laws.FnExactGapsOf
theorem lawGaps1_c {L : Int} {v u : Value} {l : List Int} {hs : List Hold} {H : AHeap} (ha : Sl H i16 1 v l) (hh : Sl H hold 2 u hs) (hl : l.length ≤ 9223372036854775807) (hm : hs.length ≤ 9223372036854775807) (hL : -32768 ≤ L ∧ L ≤ 32767) (hw : holdOk hs) (hv : okRope L l ∧ okHolds l.length hs) : ACd Try.prog 14 [.agg #[.int .i16 L, v], u] H (.bool true) (H) := by
  have hcl := hgaps_len l hs
  refine ac_gc0 (fun β => VR.plainT β (by first | rfl | simp [plainT, plainV, plain1])) (ac_body Try.func14 rfl Try.ntmps14 rfl ?_)
  refine aw_seq ?_
  refine aw_region ?_
  refine al_opd rfl rfl rfl (ao_boxa (by rfl)) ?_
  refine al_opd rfl rfl rfl (ao_as (v := .bool _) rfl) ?_
  refine al_nilT ?_
  refine aw_seq ?_
  refine aw_region ?_
  refine al_opd rfl rfl rfl (ao_as (v := .int _ _) rfl) ?_
  refine al_nilT ?_
  refine aw_seq ?_
  refine aw_region ?_
  refine al_opd rfl rfl rfl (ao_loada Try.isAgg34 Try.sizeOf34 rfl (by ((repeat (first | exact blk_push_new _ _ | assumption | apply blk_push_old | apply blk_set_same | refine (blk_set_ne (by first | assumption | omega | (simp only [next_push, next_set, next_kill, ne_eq]; omega))).trans ?_)); (first | done | fail))) (by rfl) (by first | rfl | (simp; (first | done | fail)))) ?_
  refine al_opd rfl rfl rfl (ao_mv (v := .int _ _) rfl) ?_
  refine al_opd rfl rfl rfl (ao_calld (szRope_c (L := L) (v := v) (l := l) (k := 1048576) (ha.mono (by (repeat (first | exact Same.refl _ _ | assumption | refine Same.push ?_ (by (first | exact Nat.le_refl _ | omega | (simp only [next_push, next_set, next_kill]; omega))) _ | refine Same.set ?_ (by (first | exact Nat.le_refl _ | omega | (simp only [next_push, next_set, next_kill]; omega))) _ | refine Same.kill ?_ (by (first | exact Nat.le_refl _ | omega | (simp only [next_push, next_set, next_kill]; omega))))))) hl (by omega)) Try.call26 rfl rfl) ?_
  refine al_opd rfl rfl rfl (ao_as (v := .int _ _) rfl) ?_
  refine al_nilT ?_
  refine aw_seq ?_
  refine aw_seq ?_
  refine aw_region ?_
  refine al_opd rfl rfl rfl (ao_mv (v := .int _ _) rfl) ?_
  refine al_opd rfl rfl rfl (ao_lss rfl rfl) ?_
  refine al_nilT ?_
  refine aw_cond rfl (fun h1_ => ?_) (fun h1_ => ?_)
  · try simp only [decide_eq_true_eq, decide_eq_false_iff_not, Bool.not_eq_true', Bool.not_eq_false', Bool.and_eq_true, Bool.or_eq_true, Bool.and_eq_false_iff, Bool.or_eq_false_iff, beq_iff_eq, bne_iff_ne, beq_eq_false_iff_ne, bne_eq_false_iff_eq, ne_eq, Decidable.not_not, Bool.decide_eq_true] at h1_
    refine aw_seq ?_
    refine aw_region ?_
    refine al_opd rfl rfl rfl (ao_as (v := .bool _) rfl) ?_
    refine al_nilT ?_
    refine aw_ret ?_
    refine thenA_r ?_
    refine ends1 rfl (rv_tmp (v := .bool _) rfl) ?_
    exact ⟨by first | rfl | (simp [*]; (first | done | fail)), by (repeat (first | exact Same.refl _ _ | assumption | refine Same.push ?_ (by (first | exact Nat.le_refl _ | omega | (simp only [next_push, next_set, next_kill]; omega))) _ | refine Same.set ?_ (by (first | exact Nat.le_refl _ | omega | (simp only [next_push, next_set, next_kill]; omega))) _ | refine Same.kill ?_ (by (first | exact Nat.le_refl _ | omega | (simp only [next_push, next_set, next_kill]; omega)))))⟩
  · try simp only [decide_eq_true_eq, decide_eq_false_iff_not, Bool.not_eq_true', Bool.not_eq_false', Bool.and_eq_true, Bool.or_eq_true, Bool.and_eq_false_iff, Bool.or_eq_false_iff, beq_iff_eq, bne_iff_ne, beq_eq_false_iff_ne, bne_eq_false_iff_eq, ne_eq, Decidable.not_not, Bool.decide_eq_true] at h1_
    have hl1 : l.length ≤ 1048576 := by omega
    refine aw_skipT ?_
    refine aw_seq ?_
    refine aw_region ?_
    first | refine al_opd rfl rfl rfl (ao_mv (v := .slice _ _ _) rfl) ?_ | refine al_opd rfl rfl rfl (ao_mv (v := v) rfl) ?_ | refine al_opd rfl rfl rfl (ao_mv (v := u) rfl) ?_
    refine al_opd rfl rfl rfl (ao_mv (v := .int _ _) rfl) ?_
    refine al_opd rfl rfl rfl (ao_calld (szHoldS_c (v := u) (l := hs) (k := if 1048576 - (l.length : Int) < 0 then -1 else 1048576 - l.length) (hh.mono (by (repeat (first | exact Same.refl _ _ | assumption | refine Same.push ?_ (by (first | exact Nat.le_refl _ | omega | (simp only [next_push, next_set, next_kill]; omega))) _ | refine Same.set ?_ (by (first | exact Nat.le_refl _ | omega | (simp only [next_push, next_set, next_kill]; omega))) _ | refine Same.kill ?_ (by (first | exact Nat.le_refl _ | omega | (simp only [next_push, next_set, next_kill]; omega))))))) hm (by omega)) Try.call21 rfl rfl) ?_
    refine al_opd rfl rfl rfl (ao_as (v := .int _ _) rfl) ?_
    refine al_nilT ?_
    refine aw_seq ?_
    refine aw_seq ?_
    refine aw_region ?_
    refine al_opd rfl rfl rfl (ao_mv (v := .int _ _) rfl) ?_
    refine al_opd rfl rfl rfl (ao_lss rfl rfl) ?_
    refine al_nilT ?_
    refine aw_cond rfl (fun h2_ => ?_) (fun h2_ => ?_)
    · try simp only [decide_eq_true_eq, decide_eq_false_iff_not, Bool.not_eq_true', Bool.not_eq_false', Bool.and_eq_true, Bool.or_eq_true, Bool.and_eq_false_iff, Bool.or_eq_false_iff, beq_iff_eq, bne_iff_ne, beq_eq_false_iff_ne, bne_eq_false_iff_eq, ne_eq, Decidable.not_not, Bool.decide_eq_true] at h2_
      refine aw_seq ?_
      refine aw_region ?_
      refine al_opd rfl rfl rfl (ao_as (v := .bool _) rfl) ?_
      refine al_nilT ?_
      refine aw_ret ?_
      refine thenA_r ?_
      refine ends1 rfl (rv_tmp (v := .bool _) rfl) ?_
      exact ⟨by first | rfl | (simp [*]; (first | done | fail)), by (repeat (first | exact Same.refl _ _ | assumption | refine Same.push ?_ (by (first | exact Nat.le_refl _ | omega | (simp only [next_push, next_set, next_kill]; omega))) _ | refine Same.set ?_ (by (first | exact Nat.le_refl _ | omega | (simp only [next_push, next_set, next_kill]; omega))) _ | refine Same.kill ?_ (by (first | exact Nat.le_refl _ | omega | (simp only [next_push, next_set, next_kill]; omega)))))⟩
    · try simp only [decide_eq_true_eq, decide_eq_false_iff_not, Bool.not_eq_true', Bool.not_eq_false', Bool.and_eq_true, Bool.or_eq_true, Bool.and_eq_false_iff, Bool.or_eq_false_iff, beq_iff_eq, bne_iff_ne, beq_eq_false_iff_ne, bne_eq_false_iff_eq, ne_eq, Decidable.not_not, Bool.decide_eq_true] at h2_
      have hm1 : hs.length ≤ 1048576 := by omega
      refine aw_skipT ?_
      refine aw_seq ?_
      refine aw_region ?_
      refine al_opd rfl rfl rfl (ao_loada Try.isAgg34 Try.sizeOf34 rfl (by ((repeat (first | exact blk_push_new _ _ | assumption | apply blk_push_old | apply blk_set_same | refine (blk_set_ne (by first | assumption | omega | (simp only [next_push, next_set, next_kill, ne_eq]; omega))).trans ?_)); (first | done | fail))) (by rfl) (by first | rfl | (simp; (first | done | fail)))) ?_
      refine al_opd rfl rfl rfl (ao_calld (toRope_c (L := L) (v := v) (l := l) (ha.mono (by (repeat (first | exact Same.refl _ _ | assumption | refine Same.push ?_ (by (first | exact Nat.le_refl _ | omega | (simp only [next_push, next_set, next_kill]; omega))) _ | refine Same.set ?_ (by (first | exact Nat.le_refl _ | omega | (simp only [next_push, next_set, next_kill]; omega))) _ | refine Same.kill ?_ (by (first | exact Nat.le_refl _ | omega | (simp only [next_push, next_set, next_kill]; omega))))))) (by omega)) Try.call28 rfl rfl) ?_
      first | refine al_opd rfl rfl rfl (ao_mv (v := .slice _ _ _) rfl) ?_ | refine al_opd rfl rfl rfl (ao_mv (v := v) rfl) ?_ | refine al_opd rfl rfl rfl (ao_mv (v := u) rfl) ?_
      refine al_opd rfl rfl rfl (ao_calld (toHoldS_c (v := u) (l := hs) (hh.mono (by (repeat (first | exact Same.refl _ _ | assumption | refine Same.push ?_ (by (first | exact Nat.le_refl _ | omega | (simp only [next_push, next_set, next_kill]; omega))) _ | refine Same.set ?_ (by (first | exact Nat.le_refl _ | omega | (simp only [next_push, next_set, next_kill]; omega))) _ | refine Same.kill ?_ (by (first | exact Nat.le_refl _ | omega | (simp only [next_push, next_set, next_kill]; omega))))))) (by omega)) Try.call23 rfl rfl) ?_
      refine al_opd rfl rfl rfl (ao_calld (specGaps1_c (L := L) (ks := l) (hs := hs) (Sl.full i16_len (by ((repeat (first | exact blk_push_new _ _ | assumption | apply blk_push_old | apply blk_set_same | refine (blk_set_ne (by first | assumption | omega | (simp only [next_push, next_set, next_kill, ne_eq]; omega))).trans ?_)); (first | done | fail))) rfl rfl rfl) (by ((repeat (first | exact blk_push_new _ _ | assumption | apply blk_push_old | apply blk_set_same | refine (blk_set_ne (by first | assumption | omega | (simp only [next_push, next_set, next_kill, ne_eq]; omega))).trans ?_)); (first | done | fail))) (by omega) (by omega) (by omega) hL hw hv) Try.call52 rfl rfl) ?_
      refine al_opd rfl rfl rfl (ao_mv (v := .tuple _) rfl) ?_
      refine al_opd rfl rfl rfl (ao_extract (v := .slice _ _ _) rfl rfl) ?_
      refine al_opd rfl rfl rfl (ao_extract (v := .int _ _) rfl rfl) ?_
      first | refine al_opd rfl rfl rfl (ao_as (v := .slice _ _ _) rfl) ?_ | refine al_opd rfl rfl rfl (ao_as (v := v) rfl) ?_ | refine al_opd rfl rfl rfl (ao_as (v := u) rfl) ?_
      refine al_opd rfl rfl rfl (ao_as (v := .int _ _) rfl) ?_
      refine al_nilT ?_
      refine aw_seq ?_
      refine aw_region ?_
      refine al_opd rfl rfl rfl (ao_loada Try.isAgg34 Try.sizeOf34 rfl (by ((repeat (first | exact blk_push_new _ _ | assumption | apply blk_push_old | apply blk_set_same | refine (blk_set_ne (by first | assumption | omega | (simp only [next_push, next_set, next_kill, ne_eq]; omega))).trans ?_)); (first | done | fail))) (by rfl) (by first | rfl | (simp; (first | done | fail)))) ?_
      refine al_opd rfl rfl rfl (ao_calld (toRope_c (L := L) (v := v) (l := l) (ha.mono (by (repeat (first | exact Same.refl _ _ | assumption | refine Same.push ?_ (by (first | exact Nat.le_refl _ | omega | (simp only [next_push, next_set, next_kill]; omega))) _ | refine Same.set ?_ (by (first | exact Nat.le_refl _ | omega | (simp only [next_push, next_set, next_kill]; omega))) _ | refine Same.kill ?_ (by (first | exact Nat.le_refl _ | omega | (simp only [next_push, next_set, next_kill]; omega))))))) (by omega)) Try.call28 rfl rfl) ?_
      refine al_opd rfl rfl rfl (ao_alloca (zv37) (by rfl)) ?_
      first | refine al_opd rfl rfl rfl ((ao_storeL Try.sizeOf37 (by rfl) (by rfl) (by ((repeat (first | exact blk_push_new _ _ | assumption | apply blk_push_old | apply blk_set_same | refine (blk_set_ne (by first | assumption | omega | (simp only [next_push, next_set, next_kill, ne_eq]; omega))).trans ?_)); (first | done | fail))) (by first | rfl | (simp; (first | done | fail))) (by first | rfl | (simp; (first | done | fail))) (by first | rfl | (simp; (first | done | fail)))).to (SetR.eq (by (repeat (first | exact SetR.new | exact SetR.same | (apply SetR.old; · exact ⟨_, by ((repeat (first | exact blk_push_new _ _ | assumption | apply blk_push_old | apply blk_set_same | refine (blk_set_ne (by first | assumption | omega | (simp only [next_push, next_set, next_kill, ne_eq]; omega))).trans ?_)); (first | done | fail))⟩) | exact SetR.base))))) ?_ | refine al_opd rfl rfl rfl ((ao_storeP (ds := [.int _ _, .slice _ _ _]) Try.sizeOf37 (by rfl) (by rfl) (by ((repeat (first | exact blk_push_new _ _ | assumption | apply blk_push_old | apply blk_set_same | refine (blk_set_ne (by first | assumption | omega | (simp only [next_push, next_set, next_kill, ne_eq]; omega))).trans ?_)); (first | done | fail))) (by first | rfl | (simp; (first | done | fail))) (by first | rfl | (simp; (first | done | fail))) (by first | decide | (simp; (first | done | fail)) | (simp; omega))).to (SetR.eq (by (repeat (first | exact SetR.new | exact SetR.same | (apply SetR.old; · exact ⟨_, by ((repeat (first | exact blk_push_new _ _ | assumption | apply blk_push_old | apply blk_set_same | refine (blk_set_ne (by first | assumption | omega | (simp only [next_push, next_set, next_kill, ne_eq]; omega))).trans ?_)); (first | done | fail))⟩) | exact SetR.base))))) ?_
      refine al_nilT ?_
      refine aw_seq ?_
      refine aw_region ?_
      first | refine al_opd rfl rfl rfl (ao_mv (v := .slice _ _ _) rfl) ?_ | refine al_opd rfl rfl rfl (ao_mv (v := v) rfl) ?_ | refine al_opd rfl rfl rfl (ao_mv (v := u) rfl) ?_
      refine al_opd rfl rfl rfl (ao_calld (toHoldS_c (v := u) (l := hs) (hh.mono (by (repeat (first | exact Same.refl _ _ | assumption | refine Same.push ?_ (by (first | exact Nat.le_refl _ | omega | (simp only [next_push, next_set, next_kill]; omega))) _ | refine Same.set ?_ (by (first | exact Nat.le_refl _ | omega | (simp only [next_push, next_set, next_kill]; omega))) _ | refine Same.kill ?_ (by (first | exact Nat.le_refl _ | omega | (simp only [next_push, next_set, next_kill]; omega))))))) (by omega)) Try.call23 rfl rfl) ?_
      first | refine al_opd rfl rfl rfl (ao_as (v := .slice _ _ _) rfl) ?_ | refine al_opd rfl rfl rfl (ao_as (v := v) rfl) ?_ | refine al_opd rfl rfl rfl (ao_as (v := u) rfl) ?_
      refine al_nilT ?_
      refine aw_seq ?_
      refine aw_region ?_
      refine al_opd rfl rfl rfl (ao_loada Try.isAgg37 Try.sizeOf37 rfl (by ((repeat (first | exact blk_push_new _ _ | assumption | apply blk_push_old | apply blk_set_same | refine (blk_set_ne (by first | assumption | omega | (simp only [next_push, next_set, next_kill, ne_eq]; omega))).trans ?_)); (first | done | fail))) (by rfl) (by first | rfl | (simp; (first | done | fail)))) ?_
      first | refine al_opd rfl rfl rfl (ao_mv (v := .slice _ _ _) rfl) ?_ | refine al_opd rfl rfl rfl (ao_mv (v := v) rfl) ?_ | refine al_opd rfl rfl rfl (ao_mv (v := u) rfl) ?_
      refine al_opd rfl rfl rfl (ao_calld (implGaps1_c (L := L) (ks := l) (hs := hs) (Sl.full i16_len (by ((repeat (first | exact blk_push_new _ _ | assumption | apply blk_push_old | apply blk_set_same | refine (blk_set_ne (by first | assumption | omega | (simp only [next_push, next_set, next_kill, ne_eq]; omega))).trans ?_)); (first | done | fail))) rfl rfl rfl) (by ((repeat (first | exact blk_push_new _ _ | assumption | apply blk_push_old | apply blk_set_same | refine (blk_set_ne (by first | assumption | omega | (simp only [next_push, next_set, next_kill, ne_eq]; omega))).trans ?_)); (first | done | fail))) (by omega) (by omega) (by omega) hL hw hv) Try.call53 rfl rfl) ?_
      refine al_opd rfl rfl rfl (ao_mv (v := .tuple _) rfl) ?_
      refine al_opd rfl rfl rfl (ao_extract (v := .slice _ _ _) rfl rfl) ?_
      refine al_opd rfl rfl rfl (ao_extract (v := .int _ _) rfl rfl) ?_
      first | refine al_opd rfl rfl rfl (ao_as (v := .slice _ _ _) rfl) ?_ | refine al_opd rfl rfl rfl (ao_as (v := v) rfl) ?_ | refine al_opd rfl rfl rfl (ao_as (v := u) rfl) ?_
      refine al_opd rfl rfl rfl (ao_as (v := .int _ _) rfl) ?_
      refine al_nilT ?_
      refine aw_seq ?_
      refine aw_seq ?_
      refine aw_region ?_
      first | refine al_opd rfl rfl rfl (ao_mv (v := .slice _ _ _) rfl) ?_ | refine al_opd rfl rfl rfl (ao_mv (v := v) rfl) ?_ | refine al_opd rfl rfl rfl (ao_mv (v := u) rfl) ?_
      first | refine al_opd rfl rfl rfl (ao_mv (v := .slice _ _ _) rfl) ?_ | refine al_opd rfl rfl rfl (ao_mv (v := v) rfl) ?_ | refine al_opd rfl rfl rfl (ao_mv (v := u) rfl) ?_
      refine al_opd rfl rfl rfl (ao_calld (eqI64_c (l := hgaps l hs) (m := hgaps l hs) (Sl.full i64_len (by ((repeat (first | exact blk_push_new _ _ | assumption | apply blk_push_old | apply blk_set_same | refine (blk_set_ne (by first | assumption | omega | (simp only [next_push, next_set, next_kill, ne_eq]; omega))).trans ?_)); (first | done | fail))) rfl rfl rfl) (Sl.full i64_len (by ((repeat (first | exact blk_push_new _ _ | assumption | apply blk_push_old | apply blk_set_same | refine (blk_set_ne (by first | assumption | omega | (simp only [next_push, next_set, next_kill, ne_eq]; omega))).trans ?_)); (first | done | fail))) rfl rfl rfl) (by omega)) Try.call41 rfl rfl) ?_
      refine al_opd rfl rfl rfl (ao_not rfl) ?_
      refine al_opd rfl rfl rfl (ao_mv (v := .bool _) rfl) ?_
      refine al_cases (d := 49) rfl (fun h3_ => ?_) (fun h3_ => ?_)
      · try simp only [decide_eq_true_eq, decide_eq_false_iff_not, Bool.not_eq_true', Bool.not_eq_false', Bool.and_eq_true, Bool.or_eq_true, Bool.and_eq_false_iff, Bool.or_eq_false_iff, beq_iff_eq, bne_iff_ne, beq_eq_false_iff_ne, bne_eq_false_iff_eq, ne_eq, Decidable.not_not, Bool.decide_eq_true] at h3_
        first | done | omega | (exfalso; revert h3_; simp; (first | done | omega))
      · try simp only [decide_eq_true_eq, decide_eq_false_iff_not, Bool.not_eq_true', Bool.not_eq_false', Bool.and_eq_true, Bool.or_eq_true, Bool.and_eq_false_iff, Bool.or_eq_false_iff, beq_iff_eq, bne_iff_ne, beq_eq_false_iff_ne, bne_eq_false_iff_eq, ne_eq, Decidable.not_not, Bool.decide_eq_true] at h3_
        refine al_gyes rfl rfl rfl rfl rfl (ao_mv (v := .int _ _) rfl) ?_
        refine al_gyes rfl rfl rfl rfl rfl (ao_mv (v := .int _ _) rfl) ?_
        refine al_gyes rfl rfl rfl rfl rfl (ao_neq rfl rfl) ?_
        refine al_opd rfl rfl rfl (ao_pickF rfl (v := .bool _) rfl) ?_
        refine al_nilT ?_
        refine aw_cond rfl (fun h4_ => ?_) (fun h4_ => ?_)
        · try simp only [decide_eq_true_eq, decide_eq_false_iff_not, Bool.not_eq_true', Bool.not_eq_false', Bool.and_eq_true, Bool.or_eq_true, Bool.and_eq_false_iff, Bool.or_eq_false_iff, beq_iff_eq, bne_iff_ne, beq_eq_false_iff_ne, bne_eq_false_iff_eq, ne_eq, Decidable.not_not, Bool.decide_eq_true] at h4_
          first | done | omega | (exfalso; revert h4_; simp; (first | done | omega))
        · try simp only [decide_eq_true_eq, decide_eq_false_iff_not, Bool.not_eq_true', Bool.not_eq_false', Bool.and_eq_true, Bool.or_eq_true, Bool.and_eq_false_iff, Bool.or_eq_false_iff, beq_iff_eq, bne_iff_ne, beq_eq_false_iff_ne, bne_eq_false_iff_eq, ne_eq, Decidable.not_not, Bool.decide_eq_true] at h4_
          refine aw_skipT ?_
          refine aw_seq ?_
          refine aw_seq ?_
          refine aw_draw (m := 5) mo (by kernel_rfl) rfl ?_
          refine dw_opd rfl rfl rfl (ao_loada Try.isAgg37 Try.sizeOf37 rfl (by ((repeat (first | exact blk_push_new _ _ | assumption | apply blk_push_old | apply blk_set_same | refine (blk_set_ne (by first | assumption | omega | (simp only [next_push, next_set, next_kill, ne_eq]; omega))).trans ?_)); (first | done | fail))) (by rfl) (by first | rfl | (simp; (first | done | fail)))) ?_
          refine dw_opd rfl rfl rfl (ao_loada Try.isAgg34 Try.sizeOf34 rfl (by ((repeat (first | exact blk_push_new _ _ | assumption | apply blk_push_old | apply blk_set_same | refine (blk_set_ne (by first | assumption | omega | (simp only [next_push, next_set, next_kill, ne_eq]; omega))).trans ?_)); (first | done | fail))) (by rfl) (by first | rfl | (simp; (first | done | fail)))) ?_
          refine dw_opn rfl rfl rfl (ao_calld (toRope_c (L := L) (v := v) (l := l) (ha.mono (by (repeat (first | exact Same.refl _ _ | assumption | refine Same.push ?_ (by (first | exact Nat.le_refl _ | omega | (simp only [next_push, next_set, next_kill]; omega))) _ | refine Same.set ?_ (by (first | exact Nat.le_refl _ | omega | (simp only [next_push, next_set, next_kill]; omega))) _ | refine Same.kill ?_ (by (first | exact Nat.le_refl _ | omega | (simp only [next_push, next_set, next_kill]; omega))))))) (by omega)) Try.call28 rfl rfl) ?_
          refine dw_opd rfl rfl rfl (ao_calld (eqRope_c (L := L) (M := L) (l := l) (m := l) (Sl.full i16_len (by ((repeat (first | exact blk_push_new _ _ | assumption | apply blk_push_old | apply blk_set_same | refine (blk_set_ne (by first | assumption | omega | (simp only [next_push, next_set, next_kill, ne_eq]; omega))).trans ?_)); (first | done | fail))) rfl rfl rfl) (Sl.full i16_len (by ((repeat (first | exact blk_push_new _ _ | assumption | apply blk_push_old | apply blk_set_same | refine (blk_set_ne (by first | assumption | omega | (simp only [next_push, next_set, next_kill, ne_eq]; omega))).trans ?_)); (first | done | fail))) rfl rfl rfl) (by omega)) Try.call30 rfl rfl) ?_
          refine dw_opd rfl rfl rfl (ao_not rfl) ?_
          refine dw_end ?_
          refine al_nilT ?_
          refine aw_cond rfl (fun h5_ => ?_) (fun h5_ => ?_)
          · try simp only [decide_eq_true_eq, decide_eq_false_iff_not, Bool.not_eq_true', Bool.not_eq_false', Bool.and_eq_true, Bool.or_eq_true, Bool.and_eq_false_iff, Bool.or_eq_false_iff, beq_iff_eq, bne_iff_ne, beq_eq_false_iff_ne, bne_eq_false_iff_eq, ne_eq, Decidable.not_not, Bool.decide_eq_true] at h5_
            first | done | omega | (exfalso; revert h5_; simp; (first | done | omega))
          · try simp only [decide_eq_true_eq, decide_eq_false_iff_not, Bool.not_eq_true', Bool.not_eq_false', Bool.and_eq_true, Bool.or_eq_true, Bool.and_eq_false_iff, Bool.or_eq_false_iff, beq_iff_eq, bne_iff_ne, beq_eq_false_iff_ne, bne_eq_false_iff_eq, ne_eq, Decidable.not_not, Bool.decide_eq_true] at h5_
            refine aw_skipT ?_
            refine aw_seq ?_
            refine aw_seq ?_
            refine aw_region ?_
            first | refine al_opd rfl rfl rfl (ao_mv (v := .slice _ _ _) rfl) ?_ | refine al_opd rfl rfl rfl (ao_mv (v := v) rfl) ?_ | refine al_opd rfl rfl rfl (ao_mv (v := u) rfl) ?_
            first | refine al_opd rfl rfl rfl (ao_mv (v := .slice _ _ _) rfl) ?_ | refine al_opd rfl rfl rfl (ao_mv (v := v) rfl) ?_ | refine al_opd rfl rfl rfl (ao_mv (v := u) rfl) ?_
            refine al_opd rfl rfl rfl (ao_calld (toHoldS_c (v := u) (l := hs) (hh.mono (by (repeat (first | exact Same.refl _ _ | assumption | refine Same.push ?_ (by (first | exact Nat.le_refl _ | omega | (simp only [next_push, next_set, next_kill]; omega))) _ | refine Same.set ?_ (by (first | exact Nat.le_refl _ | omega | (simp only [next_push, next_set, next_kill]; omega))) _ | refine Same.kill ?_ (by (first | exact Nat.le_refl _ | omega | (simp only [next_push, next_set, next_kill]; omega))))))) (by omega)) Try.call23 rfl rfl) ?_
            refine al_opd rfl rfl rfl (ao_calld (eqHoldS_c (l := hs) (m := hs) (Sl.full hold_len (by ((repeat (first | exact blk_push_new _ _ | assumption | apply blk_push_old | apply blk_set_same | refine (blk_set_ne (by first | assumption | omega | (simp only [next_push, next_set, next_kill, ne_eq]; omega))).trans ?_)); (first | done | fail))) rfl rfl rfl) (Sl.full hold_len (by ((repeat (first | exact blk_push_new _ _ | assumption | apply blk_push_old | apply blk_set_same | refine (blk_set_ne (by first | assumption | omega | (simp only [next_push, next_set, next_kill, ne_eq]; omega))).trans ?_)); (first | done | fail))) rfl rfl rfl) (by omega)) Try.call25 rfl rfl) ?_
            refine al_opd rfl rfl rfl (ao_not rfl) ?_
            refine al_nilT ?_
            refine aw_cond rfl (fun h6_ => ?_) (fun h6_ => ?_)
            · try simp only [decide_eq_true_eq, decide_eq_false_iff_not, Bool.not_eq_true', Bool.not_eq_false', Bool.and_eq_true, Bool.or_eq_true, Bool.and_eq_false_iff, Bool.or_eq_false_iff, beq_iff_eq, bne_iff_ne, beq_eq_false_iff_ne, bne_eq_false_iff_eq, ne_eq, Decidable.not_not, Bool.decide_eq_true] at h6_
              first | done | omega | (exfalso; revert h6_; simp; (first | done | omega))
            · try simp only [decide_eq_true_eq, decide_eq_false_iff_not, Bool.not_eq_true', Bool.not_eq_false', Bool.and_eq_true, Bool.or_eq_true, Bool.and_eq_false_iff, Bool.or_eq_false_iff, beq_iff_eq, bne_iff_ne, beq_eq_false_iff_ne, bne_eq_false_iff_eq, ne_eq, Decidable.not_not, Bool.decide_eq_true] at h6_
              refine aw_skipT ?_
              refine aw_seq ?_
              refine aw_region ?_
              refine al_opd rfl rfl rfl (ao_as (v := .int _ _) rfl) ?_
              refine al_nilT ?_
              refine aw_seq ?_
              refine aw_region ?_
              refine al_opd rfl rfl rfl (ao_loada Try.isAgg37 Try.sizeOf37 rfl (by ((repeat (first | exact blk_push_new _ _ | assumption | apply blk_push_old | apply blk_set_same | refine (blk_set_ne (by first | assumption | omega | (simp only [next_push, next_set, next_kill, ne_eq]; omega))).trans ?_)); (first | done | fail))) (by rfl) (by first | rfl | (simp; (first | done | fail)))) ?_
              refine al_opd rfl rfl rfl (ao_mv (v := .int _ _) rfl) ?_
              refine al_opd rfl rfl rfl ((ao_calld (markRope_c (L := L) (l := l) (k := 1) (by ((repeat (first | exact blk_push_new _ _ | assumption | apply blk_push_old | apply blk_set_same | refine (blk_set_ne (by first | assumption | omega | (simp only [next_push, next_set, next_kill, ne_eq]; omega))).trans ?_)); (first | done | fail))) (by omega) (by omega)) Try.call35 rfl rfl).to (SetR.eq (by (repeat (first | exact SetR.new | exact SetR.same | (apply SetR.old; · exact ⟨_, by ((repeat (first | exact blk_push_new _ _ | assumption | apply blk_push_old | apply blk_set_same | refine (blk_set_ne (by first | assumption | omega | (simp only [next_push, next_set, next_kill, ne_eq]; omega))).trans ?_)); (first | done | fail))⟩) | exact SetR.base))))) ?_
              refine al_opd rfl rfl rfl (ao_as (v := .int _ _) rfl) ?_
              refine al_nilT ?_
              refine aw_seq ?_
              refine aw_region ?_
              first | refine al_opd rfl rfl rfl (ao_mv (v := .slice _ _ _) rfl) ?_ | refine al_opd rfl rfl rfl (ao_mv (v := v) rfl) ?_ | refine al_opd rfl rfl rfl (ao_mv (v := u) rfl) ?_
              refine al_opd rfl rfl rfl (ao_mv (v := .int _ _) rfl) ?_
              refine al_opd rfl rfl rfl ((ao_calld (mark_hold_c (l := hs) (k := 1 + l.length) (by ((repeat (first | exact blk_push_new _ _ | assumption | apply blk_push_old | apply blk_set_same | refine (blk_set_ne (by first | assumption | omega | (simp only [next_push, next_set, next_kill, ne_eq]; omega))).trans ?_)); (first | done | fail))) (by omega) (by omega)) Try.call50 rfl rfl).to (SetR.eq (by (repeat (first | exact SetR.new | exact SetR.same | (apply SetR.old; · exact ⟨_, by ((repeat (first | exact blk_push_new _ _ | assumption | apply blk_push_old | apply blk_set_same | refine (blk_set_ne (by first | assumption | omega | (simp only [next_push, next_set, next_kill, ne_eq]; omega))).trans ?_)); (first | done | fail))⟩) | exact SetR.base))))) ?_
              refine al_opd rfl rfl rfl (ao_as (v := .int _ _) rfl) ?_
              refine al_nilT ?_
              refine aw_seq ?_
              refine aw_seq ?_
              refine aw_region ?_
              refine al_opd rfl rfl rfl (ao_mv (v := .int _ _) rfl) ?_
              refine al_opd rfl rfl rfl (ao_lss rfl rfl) ?_
              refine al_opd rfl rfl rfl (ao_mv (v := .bool _) rfl) ?_
              refine al_cases (d := 72) rfl (fun h7_ => ?_) (fun h7_ => ?_)
              · try simp only [decide_eq_true_eq, decide_eq_false_iff_not, Bool.not_eq_true', Bool.not_eq_false', Bool.and_eq_true, Bool.or_eq_true, Bool.and_eq_false_iff, Bool.or_eq_false_iff, beq_iff_eq, bne_iff_ne, beq_eq_false_iff_ne, bne_eq_false_iff_eq, ne_eq, Decidable.not_not, Bool.decide_eq_true] at h7_
                first | done | omega | (exfalso; revert h7_; simp; (first | done | omega))
              · try simp only [decide_eq_true_eq, decide_eq_false_iff_not, Bool.not_eq_true', Bool.not_eq_false', Bool.and_eq_true, Bool.or_eq_true, Bool.and_eq_false_iff, Bool.or_eq_false_iff, beq_iff_eq, bne_iff_ne, beq_eq_false_iff_ne, bne_eq_false_iff_eq, ne_eq, Decidable.not_not, Bool.decide_eq_true] at h7_
                first | refine al_gyes rfl rfl rfl rfl rfl (ao_mv (v := .slice _ _ _) rfl) ?_ | refine al_gyes rfl rfl rfl rfl rfl (ao_mv (v := v) rfl) ?_ | refine al_gyes rfl rfl rfl rfl rfl (ao_mv (v := u) rfl) ?_
                first | refine al_gyes rfl rfl rfl rfl rfl (ao_mv (v := .slice _ _ _) rfl) ?_ | refine al_gyes rfl rfl rfl rfl rfl (ao_mv (v := v) rfl) ?_ | refine al_gyes rfl rfl rfl rfl rfl (ao_mv (v := u) rfl) ?_
                refine al_gyes rfl rfl rfl rfl rfl (ao_calld (eqI64_c (l := hgaps l hs) (m := hgaps l hs) (Sl.full i64_len (by ((repeat (first | exact blk_push_new _ _ | assumption | apply blk_push_old | apply blk_set_same | refine (blk_set_ne (by first | assumption | omega | (simp only [next_push, next_set, next_kill, ne_eq]; omega))).trans ?_)); (first | done | fail))) rfl rfl rfl) (Sl.full i64_len (by ((repeat (first | exact blk_push_new _ _ | assumption | apply blk_push_old | apply blk_set_same | refine (blk_set_ne (by first | assumption | omega | (simp only [next_push, next_set, next_kill, ne_eq]; omega))).trans ?_)); (first | done | fail))) rfl rfl rfl) (by omega)) Try.call41 rfl rfl) ?_
                refine al_gyes rfl rfl rfl rfl rfl (ao_not rfl) ?_
                refine al_opd rfl rfl rfl (ao_pickF rfl (v := .bool _) rfl) ?_
                refine al_opd rfl rfl rfl (ao_mv (v := .bool _) rfl) ?_
                refine al_cases (d := 78) rfl (fun h8_ => ?_) (fun h8_ => ?_)
                · try simp only [decide_eq_true_eq, decide_eq_false_iff_not, Bool.not_eq_true', Bool.not_eq_false', Bool.and_eq_true, Bool.or_eq_true, Bool.and_eq_false_iff, Bool.or_eq_false_iff, beq_iff_eq, bne_iff_ne, beq_eq_false_iff_ne, bne_eq_false_iff_eq, ne_eq, Decidable.not_not, Bool.decide_eq_true] at h8_
                  first | done | omega | (exfalso; revert h8_; simp; (first | done | omega))
                · try simp only [decide_eq_true_eq, decide_eq_false_iff_not, Bool.not_eq_true', Bool.not_eq_false', Bool.and_eq_true, Bool.or_eq_true, Bool.and_eq_false_iff, Bool.or_eq_false_iff, beq_iff_eq, bne_iff_ne, beq_eq_false_iff_ne, bne_eq_false_iff_eq, ne_eq, Decidable.not_not, Bool.decide_eq_true] at h8_
                  refine al_gyes rfl rfl rfl rfl rfl (ao_mv (v := .int _ _) rfl) ?_
                  refine al_gyes rfl rfl rfl rfl rfl (ao_mv (v := .int _ _) rfl) ?_
                  refine al_gyes rfl rfl rfl rfl rfl (ao_neq rfl rfl) ?_
                  refine al_opd rfl rfl rfl (ao_pickF rfl (v := .bool _) rfl) ?_
                  refine al_nilT ?_
                  refine aw_cond rfl (fun h9_ => ?_) (fun h9_ => ?_)
                  · try simp only [decide_eq_true_eq, decide_eq_false_iff_not, Bool.not_eq_true', Bool.not_eq_false', Bool.and_eq_true, Bool.or_eq_true, Bool.and_eq_false_iff, Bool.or_eq_false_iff, beq_iff_eq, bne_iff_ne, beq_eq_false_iff_ne, bne_eq_false_iff_eq, ne_eq, Decidable.not_not, Bool.decide_eq_true] at h9_
                    first | done | omega | (exfalso; revert h9_; simp; (first | done | omega))
                  · try simp only [decide_eq_true_eq, decide_eq_false_iff_not, Bool.not_eq_true', Bool.not_eq_false', Bool.and_eq_true, Bool.or_eq_true, Bool.and_eq_false_iff, Bool.or_eq_false_iff, beq_iff_eq, bne_iff_ne, beq_eq_false_iff_ne, bne_eq_false_iff_eq, ne_eq, Decidable.not_not, Bool.decide_eq_true] at h9_
                    refine aw_skipT ?_
                    refine aw_seq ?_
                    refine aw_region ?_
                    refine al_opd rfl rfl rfl (ao_as (v := .int _ _) rfl) ?_
                    refine al_nilT ?_
                    refine aw_seq ?_
                    refine aw_region ?_
                    first | refine al_opd rfl rfl rfl (ao_mv (v := .slice _ _ _) rfl) ?_ | refine al_opd rfl rfl rfl (ao_mv (v := v) rfl) ?_ | refine al_opd rfl rfl rfl (ao_mv (v := u) rfl) ?_
                    refine al_opd rfl rfl rfl (ao_mv (v := .int _ _) rfl) ?_
                    refine al_opd rfl rfl rfl ((ao_calld (mark_i64_c (l := hgaps l hs) (k := 1) (by ((repeat (first | exact blk_push_new _ _ | assumption | apply blk_push_old | apply blk_set_same | refine (blk_set_ne (by first | assumption | omega | (simp only [next_push, next_set, next_kill, ne_eq]; omega))).trans ?_)); (first | done | fail))) (by omega) (by omega)) Try.call42 rfl rfl).to (SetR.eq (by (repeat (first | exact SetR.new | exact SetR.same | (apply SetR.old; · exact ⟨_, by ((repeat (first | exact blk_push_new _ _ | assumption | apply blk_push_old | apply blk_set_same | refine (blk_set_ne (by first | assumption | omega | (simp only [next_push, next_set, next_kill, ne_eq]; omega))).trans ?_)); (first | done | fail))⟩) | exact SetR.base))))) ?_
                    refine al_opd rfl rfl rfl (ao_as (v := .int _ _) rfl) ?_
                    refine al_nilT ?_
                    refine aw_seq ?_
                    refine aw_region ?_
                    refine al_opd rfl rfl rfl (ao_as (v := .int _ _) rfl) ?_
                    refine al_nilT ?_
                    refine aw_seq ?_
                    refine aw_region ?_
                    first | refine al_opd rfl rfl rfl (ao_mv (v := .slice _ _ _) rfl) ?_ | refine al_opd rfl rfl rfl (ao_mv (v := v) rfl) ?_ | refine al_opd rfl rfl rfl (ao_mv (v := u) rfl) ?_
                    refine al_opd rfl rfl rfl (ao_mv (v := .int _ _) rfl) ?_
                    refine al_opd rfl rfl rfl (ao_calld (held_i64_c (n := (hgaps l hs).length) (k := 1) (Sl.full i64_len (by ((repeat (first | exact blk_push_new _ _ | assumption | apply blk_push_old | apply blk_set_same | refine (blk_set_ne (by first | assumption | omega | (simp only [next_push, next_set, next_kill, ne_eq]; omega))).trans ?_)); (first | done | fail))) rfl rfl (mk64_len _ _).symm) (by omega) (by omega)) Try.call43 rfl rfl) ?_
                    refine al_opd rfl rfl rfl (ao_as (v := .int _ _) rfl) ?_
                    refine al_nilT ?_
                    refine aw_seq ?_
                    refine aw_seq ?_
                    refine aw_region ?_
                    refine al_opd rfl rfl rfl (ao_mv (v := .int _ _) rfl) ?_
                    refine al_opd rfl rfl rfl (ao_lss rfl rfl) ?_
                    refine al_nilT ?_
                    refine aw_cond rfl (fun h10_ => ?_) (fun h10_ => ?_)
                    · try simp only [decide_eq_true_eq, decide_eq_false_iff_not, Bool.not_eq_true', Bool.not_eq_false', Bool.and_eq_true, Bool.or_eq_true, Bool.and_eq_false_iff, Bool.or_eq_false_iff, beq_iff_eq, bne_iff_ne, beq_eq_false_iff_ne, bne_eq_false_iff_eq, ne_eq, Decidable.not_not, Bool.decide_eq_true] at h10_
                      first | done | omega | (exfalso; revert h10_; simp; (first | done | omega))
                    · try simp only [decide_eq_true_eq, decide_eq_false_iff_not, Bool.not_eq_true', Bool.not_eq_false', Bool.and_eq_true, Bool.or_eq_true, Bool.and_eq_false_iff, Bool.or_eq_false_iff, beq_iff_eq, bne_iff_ne, beq_eq_false_iff_ne, bne_eq_false_iff_eq, ne_eq, Decidable.not_not, Bool.decide_eq_true] at h10_
                      refine aw_skipT ?_
                      refine aw_seq ?_
                      refine aw_seq ?_
                      refine aw_region ?_
                      refine al_opd rfl rfl rfl (ao_mv (v := .int _ _) rfl) ?_
                      refine al_opd rfl rfl rfl (ao_mv (v := .int _ _) rfl) ?_
                      refine al_opd rfl rfl rfl (ao_neq rfl rfl) ?_
                      refine al_nilT ?_
                      refine aw_cond rfl (fun h11_ => ?_) (fun h11_ => ?_)
                      · try simp only [decide_eq_true_eq, decide_eq_false_iff_not, Bool.not_eq_true', Bool.not_eq_false', Bool.and_eq_true, Bool.or_eq_true, Bool.and_eq_false_iff, Bool.or_eq_false_iff, beq_iff_eq, bne_iff_ne, beq_eq_false_iff_ne, bne_eq_false_iff_eq, ne_eq, Decidable.not_not, Bool.decide_eq_true] at h11_
                        first | done | omega | (exfalso; revert h11_; simp; (first | done | omega))
                      · try simp only [decide_eq_true_eq, decide_eq_false_iff_not, Bool.not_eq_true', Bool.not_eq_false', Bool.and_eq_true, Bool.or_eq_true, Bool.and_eq_false_iff, Bool.or_eq_false_iff, beq_iff_eq, bne_iff_ne, beq_eq_false_iff_ne, bne_eq_false_iff_eq, ne_eq, Decidable.not_not, Bool.decide_eq_true] at h11_
                        refine aw_skipT ?_
                        refine aw_seq ?_
                        refine aw_region ?_
                        refine al_opd rfl rfl rfl (ao_loada Try.isAgg34 Try.sizeOf34 rfl (by ((repeat (first | exact blk_push_new _ _ | assumption | apply blk_push_old | apply blk_set_same | refine (blk_set_ne (by first | assumption | omega | (simp only [next_push, next_set, next_kill, ne_eq]; omega))).trans ?_)); (first | done | fail))) (by rfl) (by first | rfl | (simp; (first | done | fail)))) ?_
                        refine al_opd rfl rfl rfl (ao_calld (toRope_c (L := L) (v := v) (l := l) (ha.mono (by (repeat (first | exact Same.refl _ _ | assumption | refine Same.push ?_ (by (first | exact Nat.le_refl _ | omega | (simp only [next_push, next_set, next_kill]; omega))) _ | refine Same.set ?_ (by (first | exact Nat.le_refl _ | omega | (simp only [next_push, next_set, next_kill]; omega))) _ | refine Same.kill ?_ (by (first | exact Nat.le_refl _ | omega | (simp only [next_push, next_set, next_kill]; omega))))))) (by omega)) Try.call28 rfl rfl) ?_
                        first | refine al_opd rfl rfl rfl (ao_mv (v := .slice _ _ _) rfl) ?_ | refine al_opd rfl rfl rfl (ao_mv (v := v) rfl) ?_ | refine al_opd rfl rfl rfl (ao_mv (v := u) rfl) ?_
                        refine al_opd rfl rfl rfl (ao_calld (toHoldS_c (v := u) (l := hs) (hh.mono (by (repeat (first | exact Same.refl _ _ | assumption | refine Same.push ?_ (by (first | exact Nat.le_refl _ | omega | (simp only [next_push, next_set, next_kill]; omega))) _ | refine Same.set ?_ (by (first | exact Nat.le_refl _ | omega | (simp only [next_push, next_set, next_kill]; omega))) _ | refine Same.kill ?_ (by (first | exact Nat.le_refl _ | omega | (simp only [next_push, next_set, next_kill]; omega))))))) (by omega)) Try.call23 rfl rfl) ?_
                        refine al_opd rfl rfl rfl (ao_calld (implGaps1_c (L := L) (ks := l) (hs := hs) (Sl.full i16_len (by ((repeat (first | exact blk_push_new _ _ | assumption | apply blk_push_old | apply blk_set_same | refine (blk_set_ne (by first | assumption | omega | (simp only [next_push, next_set, next_kill, ne_eq]; omega))).trans ?_)); (first | done | fail))) rfl rfl rfl) (by ((repeat (first | exact blk_push_new _ _ | assumption | apply blk_push_old | apply blk_set_same | refine (blk_set_ne (by first | assumption | omega | (simp only [next_push, next_set, next_kill, ne_eq]; omega))).trans ?_)); (first | done | fail))) (by omega) (by omega) (by omega) hL hw hv) Try.call53 rfl rfl) ?_
                        refine al_opd rfl rfl rfl (ao_mv (v := .tuple _) rfl) ?_
                        refine al_opd rfl rfl rfl (ao_extract (v := .slice _ _ _) rfl rfl) ?_
                        refine al_opd rfl rfl rfl (ao_extract (v := .int _ _) rfl rfl) ?_
                        first | refine al_opd rfl rfl rfl (ao_as (v := .slice _ _ _) rfl) ?_ | refine al_opd rfl rfl rfl (ao_as (v := v) rfl) ?_ | refine al_opd rfl rfl rfl (ao_as (v := u) rfl) ?_
                        refine al_opd rfl rfl rfl (ao_as (v := .int _ _) rfl) ?_
                        refine al_nilT ?_
                        refine aw_seq ?_
                        refine aw_seq ?_
                        refine aw_region ?_
                        first | refine al_opd rfl rfl rfl (ao_mv (v := .slice _ _ _) rfl) ?_ | refine al_opd rfl rfl rfl (ao_mv (v := v) rfl) ?_ | refine al_opd rfl rfl rfl (ao_mv (v := u) rfl) ?_
                        first | refine al_opd rfl rfl rfl (ao_mv (v := .slice _ _ _) rfl) ?_ | refine al_opd rfl rfl rfl (ao_mv (v := v) rfl) ?_ | refine al_opd rfl rfl rfl (ao_mv (v := u) rfl) ?_
                        refine al_opd rfl rfl rfl (ao_calld (eqI64_c (l := hgaps l hs) (m := hgaps l hs) (Sl.full i64_len (by ((repeat (first | exact blk_push_new _ _ | assumption | apply blk_push_old | apply blk_set_same | refine (blk_set_ne (by first | assumption | omega | (simp only [next_push, next_set, next_kill, ne_eq]; omega))).trans ?_)); (first | done | fail))) rfl rfl rfl) (Sl.full i64_len (by ((repeat (first | exact blk_push_new _ _ | assumption | apply blk_push_old | apply blk_set_same | refine (blk_set_ne (by first | assumption | omega | (simp only [next_push, next_set, next_kill, ne_eq]; omega))).trans ?_)); (first | done | fail))) rfl rfl rfl) (by omega)) Try.call41 rfl rfl) ?_
                        refine al_opd rfl rfl rfl (ao_not rfl) ?_
                        refine al_opd rfl rfl rfl (ao_mv (v := .bool _) rfl) ?_
                        refine al_cases (d := 106) rfl (fun h12_ => ?_) (fun h12_ => ?_)
                        · try simp only [decide_eq_true_eq, decide_eq_false_iff_not, Bool.not_eq_true', Bool.not_eq_false', Bool.and_eq_true, Bool.or_eq_true, Bool.and_eq_false_iff, Bool.or_eq_false_iff, beq_iff_eq, bne_iff_ne, beq_eq_false_iff_ne, bne_eq_false_iff_eq, ne_eq, Decidable.not_not, Bool.decide_eq_true] at h12_
                          first | done | omega | (exfalso; revert h12_; simp; (first | done | omega))
                        · try simp only [decide_eq_true_eq, decide_eq_false_iff_not, Bool.not_eq_true', Bool.not_eq_false', Bool.and_eq_true, Bool.or_eq_true, Bool.and_eq_false_iff, Bool.or_eq_false_iff, beq_iff_eq, bne_iff_ne, beq_eq_false_iff_ne, bne_eq_false_iff_eq, ne_eq, Decidable.not_not, Bool.decide_eq_true] at h12_
                          refine al_gyes rfl rfl rfl rfl rfl (ao_mv (v := .int _ _) rfl) ?_
                          refine al_gyes rfl rfl rfl rfl rfl (ao_mv (v := .int _ _) rfl) ?_
                          refine al_gyes rfl rfl rfl rfl rfl (ao_neq rfl rfl) ?_
                          refine al_opd rfl rfl rfl (ao_pickF rfl (v := .bool _) rfl) ?_
                          refine al_nilT ?_
                          refine aw_cond rfl (fun h13_ => ?_) (fun h13_ => ?_)
                          · try simp only [decide_eq_true_eq, decide_eq_false_iff_not, Bool.not_eq_true', Bool.not_eq_false', Bool.and_eq_true, Bool.or_eq_true, Bool.and_eq_false_iff, Bool.or_eq_false_iff, beq_iff_eq, bne_iff_ne, beq_eq_false_iff_ne, bne_eq_false_iff_eq, ne_eq, Decidable.not_not, Bool.decide_eq_true] at h13_
                            first | done | omega | (exfalso; revert h13_; simp; (first | done | omega))
                          · try simp only [decide_eq_true_eq, decide_eq_false_iff_not, Bool.not_eq_true', Bool.not_eq_false', Bool.and_eq_true, Bool.or_eq_true, Bool.and_eq_false_iff, Bool.or_eq_false_iff, beq_iff_eq, bne_iff_ne, beq_eq_false_iff_ne, bne_eq_false_iff_eq, ne_eq, Decidable.not_not, Bool.decide_eq_true] at h13_
                            refine aw_skipT ?_
                            refine aw_seq ?_
                            refine aw_region ?_
                            refine al_opd rfl rfl rfl (ao_as (v := .int _ _) rfl) ?_
                            refine al_nilT ?_
                            refine aw_seq ?_
                            refine aw_region ?_
                            first | refine al_opd rfl rfl rfl (ao_mv (v := .slice _ _ _) rfl) ?_ | refine al_opd rfl rfl rfl (ao_mv (v := v) rfl) ?_ | refine al_opd rfl rfl rfl (ao_mv (v := u) rfl) ?_
                            refine al_opd rfl rfl rfl (ao_mv (v := .int _ _) rfl) ?_
                            refine al_opd rfl rfl rfl (ao_calld (held_i64_c (n := (hgaps l hs).length) (k := 1) (Sl.full i64_len (by ((repeat (first | exact blk_push_new _ _ | assumption | apply blk_push_old | apply blk_set_same | refine (blk_set_ne (by first | assumption | omega | (simp only [next_push, next_set, next_kill, ne_eq]; omega))).trans ?_)); (first | done | fail))) rfl rfl (mk64_len _ _).symm) (by omega) (by omega)) Try.call43 rfl rfl) ?_
                            refine al_opd rfl rfl rfl (ao_as (v := .int _ _) rfl) ?_
                            refine al_nilT ?_
                            refine aw_seq ?_
                            refine aw_seq ?_
                            refine aw_region ?_
                            refine al_opd rfl rfl rfl (ao_mv (v := .int _ _) rfl) ?_
                            refine al_opd rfl rfl rfl (ao_lss rfl rfl) ?_
                            refine al_nilT ?_
                            refine aw_cond rfl (fun h14_ => ?_) (fun h14_ => ?_)
                            · try simp only [decide_eq_true_eq, decide_eq_false_iff_not, Bool.not_eq_true', Bool.not_eq_false', Bool.and_eq_true, Bool.or_eq_true, Bool.and_eq_false_iff, Bool.or_eq_false_iff, beq_iff_eq, bne_iff_ne, beq_eq_false_iff_ne, bne_eq_false_iff_eq, ne_eq, Decidable.not_not, Bool.decide_eq_true] at h14_
                              first | done | omega | (exfalso; revert h14_; simp; (first | done | omega))
                            · try simp only [decide_eq_true_eq, decide_eq_false_iff_not, Bool.not_eq_true', Bool.not_eq_false', Bool.and_eq_true, Bool.or_eq_true, Bool.and_eq_false_iff, Bool.or_eq_false_iff, beq_iff_eq, bne_iff_ne, beq_eq_false_iff_ne, bne_eq_false_iff_eq, ne_eq, Decidable.not_not, Bool.decide_eq_true] at h14_
                              refine aw_skipT ?_
                              refine aw_seq ?_
                              refine aw_seq ?_
                              refine aw_region ?_
                              refine al_opd rfl rfl rfl (ao_mv (v := .int _ _) rfl) ?_
                              refine al_opd rfl rfl rfl (ao_mv (v := .int _ _) rfl) ?_
                              refine al_opd rfl rfl rfl (ao_neq rfl rfl) ?_
                              refine al_nilT ?_
                              refine aw_cond rfl (fun h15_ => ?_) (fun h15_ => ?_)
                              · try simp only [decide_eq_true_eq, decide_eq_false_iff_not, Bool.not_eq_true', Bool.not_eq_false', Bool.and_eq_true, Bool.or_eq_true, Bool.and_eq_false_iff, Bool.or_eq_false_iff, beq_iff_eq, bne_iff_ne, beq_eq_false_iff_ne, bne_eq_false_iff_eq, ne_eq, Decidable.not_not, Bool.decide_eq_true] at h15_
                                first | done | omega | (exfalso; revert h15_; simp; (first | done | omega))
                              · try simp only [decide_eq_true_eq, decide_eq_false_iff_not, Bool.not_eq_true', Bool.not_eq_false', Bool.and_eq_true, Bool.or_eq_true, Bool.and_eq_false_iff, Bool.or_eq_false_iff, beq_iff_eq, bne_iff_ne, beq_eq_false_iff_ne, bne_eq_false_iff_eq, ne_eq, Decidable.not_not, Bool.decide_eq_true] at h15_
                                refine aw_skipT ?_
                                refine aw_seq ?_
                                refine aw_region ?_
                                refine al_opd rfl rfl rfl (ao_as (v := .bool _) rfl) ?_
                                refine al_nilT ?_
                                refine aw_ret ?_
                                refine ends1 rfl (rv_tmp (v := .bool _) rfl) ?_
                                exact ⟨by first | rfl | (simp [*]; (first | done | fail)), by (repeat (first | exact Same.refl _ _ | assumption | refine Same.push ?_ (by (first | exact Nat.le_refl _ | omega | (simp only [next_push, next_set, next_kill]; omega))) _ | refine Same.set ?_ (by (first | exact Nat.le_refl _ | omega | (simp only [next_push, next_set, next_kill]; omega))) _ | refine Same.kill ?_ (by (first | exact Nat.le_refl _ | omega | (simp only [next_push, next_set, next_kill]; omega)))))⟩

-- laws.FnExactGapsOf
theorem lawGaps0_c {L : Int} {v u : Value} {l : List Int} {hs : List Hold} {H : AHeap} (ha : Sl H i16 1 v l) (hh : Sl H hold 2 u hs) (hl : l.length ≤ 9223372036854775807) (hm : hs.length ≤ 9223372036854775807) (hL : -32768 ≤ L ∧ L ≤ 32767) (hw : holdOk hs) (hv : ¬ (okRope L l ∧ okHolds l.length hs)) : ACd Try.prog 14 [.agg #[.int .i16 L, v], u] H (.bool true) (H) := by
  refine ac_gc0 (fun β => VR.plainT β (by first | rfl | simp [plainT, plainV, plain1])) (ac_body Try.func14 rfl Try.ntmps14 rfl ?_)
  refine aw_seq ?_
  refine aw_region ?_
  refine al_opd rfl rfl rfl (ao_boxa (by rfl)) ?_
  refine al_opd rfl rfl rfl (ao_as (v := .bool _) rfl) ?_
  refine al_nilT ?_
  refine aw_seq ?_
  refine aw_region ?_
  refine al_opd rfl rfl rfl (ao_as (v := .int _ _) rfl) ?_
  refine al_nilT ?_
  refine aw_seq ?_
  refine aw_region ?_
  refine al_opd rfl rfl rfl (ao_loada Try.isAgg34 Try.sizeOf34 rfl (by ((repeat (first | exact blk_push_new _ _ | assumption | apply blk_push_old | apply blk_set_same | refine (blk_set_ne (by first | assumption | omega | (simp only [next_push, next_set, next_kill, ne_eq]; omega))).trans ?_)); (first | done | fail))) (by rfl) (by first | rfl | (simp; (first | done | fail)))) ?_
  refine al_opd rfl rfl rfl (ao_mv (v := .int _ _) rfl) ?_
  refine al_opd rfl rfl rfl (ao_calld (szRope_c (L := L) (v := v) (l := l) (k := 1048576) (ha.mono (by (repeat (first | exact Same.refl _ _ | assumption | refine Same.push ?_ (by (first | exact Nat.le_refl _ | omega | (simp only [next_push, next_set, next_kill]; omega))) _ | refine Same.set ?_ (by (first | exact Nat.le_refl _ | omega | (simp only [next_push, next_set, next_kill]; omega))) _ | refine Same.kill ?_ (by (first | exact Nat.le_refl _ | omega | (simp only [next_push, next_set, next_kill]; omega))))))) hl (by omega)) Try.call26 rfl rfl) ?_
  refine al_opd rfl rfl rfl (ao_as (v := .int _ _) rfl) ?_
  refine al_nilT ?_
  refine aw_seq ?_
  refine aw_seq ?_
  refine aw_region ?_
  refine al_opd rfl rfl rfl (ao_mv (v := .int _ _) rfl) ?_
  refine al_opd rfl rfl rfl (ao_lss rfl rfl) ?_
  refine al_nilT ?_
  refine aw_cond rfl (fun h1_ => ?_) (fun h1_ => ?_)
  · try simp only [decide_eq_true_eq, decide_eq_false_iff_not, Bool.not_eq_true', Bool.not_eq_false', Bool.and_eq_true, Bool.or_eq_true, Bool.and_eq_false_iff, Bool.or_eq_false_iff, beq_iff_eq, bne_iff_ne, beq_eq_false_iff_ne, bne_eq_false_iff_eq, ne_eq, Decidable.not_not, Bool.decide_eq_true] at h1_
    refine aw_seq ?_
    refine aw_region ?_
    refine al_opd rfl rfl rfl (ao_as (v := .bool _) rfl) ?_
    refine al_nilT ?_
    refine aw_ret ?_
    refine thenA_r ?_
    refine ends1 rfl (rv_tmp (v := .bool _) rfl) ?_
    exact ⟨by first | rfl | (simp [*]; (first | done | fail)), by (repeat (first | exact Same.refl _ _ | assumption | refine Same.push ?_ (by (first | exact Nat.le_refl _ | omega | (simp only [next_push, next_set, next_kill]; omega))) _ | refine Same.set ?_ (by (first | exact Nat.le_refl _ | omega | (simp only [next_push, next_set, next_kill]; omega))) _ | refine Same.kill ?_ (by (first | exact Nat.le_refl _ | omega | (simp only [next_push, next_set, next_kill]; omega)))))⟩
  · try simp only [decide_eq_true_eq, decide_eq_false_iff_not, Bool.not_eq_true', Bool.not_eq_false', Bool.and_eq_true, Bool.or_eq_true, Bool.and_eq_false_iff, Bool.or_eq_false_iff, beq_iff_eq, bne_iff_ne, beq_eq_false_iff_ne, bne_eq_false_iff_eq, ne_eq, Decidable.not_not, Bool.decide_eq_true] at h1_
    have hl1 : l.length ≤ 1048576 := by omega
    refine aw_skipT ?_
    refine aw_seq ?_
    refine aw_region ?_
    first | refine al_opd rfl rfl rfl (ao_mv (v := .slice _ _ _) rfl) ?_ | refine al_opd rfl rfl rfl (ao_mv (v := v) rfl) ?_ | refine al_opd rfl rfl rfl (ao_mv (v := u) rfl) ?_
    refine al_opd rfl rfl rfl (ao_mv (v := .int _ _) rfl) ?_
    refine al_opd rfl rfl rfl (ao_calld (szHoldS_c (v := u) (l := hs) (k := if 1048576 - (l.length : Int) < 0 then -1 else 1048576 - l.length) (hh.mono (by (repeat (first | exact Same.refl _ _ | assumption | refine Same.push ?_ (by (first | exact Nat.le_refl _ | omega | (simp only [next_push, next_set, next_kill]; omega))) _ | refine Same.set ?_ (by (first | exact Nat.le_refl _ | omega | (simp only [next_push, next_set, next_kill]; omega))) _ | refine Same.kill ?_ (by (first | exact Nat.le_refl _ | omega | (simp only [next_push, next_set, next_kill]; omega))))))) hm (by omega)) Try.call21 rfl rfl) ?_
    refine al_opd rfl rfl rfl (ao_as (v := .int _ _) rfl) ?_
    refine al_nilT ?_
    refine aw_seq ?_
    refine aw_seq ?_
    refine aw_region ?_
    refine al_opd rfl rfl rfl (ao_mv (v := .int _ _) rfl) ?_
    refine al_opd rfl rfl rfl (ao_lss rfl rfl) ?_
    refine al_nilT ?_
    refine aw_cond rfl (fun h2_ => ?_) (fun h2_ => ?_)
    · try simp only [decide_eq_true_eq, decide_eq_false_iff_not, Bool.not_eq_true', Bool.not_eq_false', Bool.and_eq_true, Bool.or_eq_true, Bool.and_eq_false_iff, Bool.or_eq_false_iff, beq_iff_eq, bne_iff_ne, beq_eq_false_iff_ne, bne_eq_false_iff_eq, ne_eq, Decidable.not_not, Bool.decide_eq_true] at h2_
      refine aw_seq ?_
      refine aw_region ?_
      refine al_opd rfl rfl rfl (ao_as (v := .bool _) rfl) ?_
      refine al_nilT ?_
      refine aw_ret ?_
      refine thenA_r ?_
      refine ends1 rfl (rv_tmp (v := .bool _) rfl) ?_
      exact ⟨by first | rfl | (simp [*]; (first | done | fail)), by (repeat (first | exact Same.refl _ _ | assumption | refine Same.push ?_ (by (first | exact Nat.le_refl _ | omega | (simp only [next_push, next_set, next_kill]; omega))) _ | refine Same.set ?_ (by (first | exact Nat.le_refl _ | omega | (simp only [next_push, next_set, next_kill]; omega))) _ | refine Same.kill ?_ (by (first | exact Nat.le_refl _ | omega | (simp only [next_push, next_set, next_kill]; omega)))))⟩
    · try simp only [decide_eq_true_eq, decide_eq_false_iff_not, Bool.not_eq_true', Bool.not_eq_false', Bool.and_eq_true, Bool.or_eq_true, Bool.and_eq_false_iff, Bool.or_eq_false_iff, beq_iff_eq, bne_iff_ne, beq_eq_false_iff_ne, bne_eq_false_iff_eq, ne_eq, Decidable.not_not, Bool.decide_eq_true] at h2_
      have hm1 : hs.length ≤ 1048576 := by omega
      refine aw_skipT ?_
      refine aw_seq ?_
      refine aw_region ?_
      refine al_opd rfl rfl rfl (ao_loada Try.isAgg34 Try.sizeOf34 rfl (by ((repeat (first | exact blk_push_new _ _ | assumption | apply blk_push_old | apply blk_set_same | refine (blk_set_ne (by first | assumption | omega | (simp only [next_push, next_set, next_kill, ne_eq]; omega))).trans ?_)); (first | done | fail))) (by rfl) (by first | rfl | (simp; (first | done | fail)))) ?_
      refine al_opd rfl rfl rfl (ao_calld (toRope_c (L := L) (v := v) (l := l) (ha.mono (by (repeat (first | exact Same.refl _ _ | assumption | refine Same.push ?_ (by (first | exact Nat.le_refl _ | omega | (simp only [next_push, next_set, next_kill]; omega))) _ | refine Same.set ?_ (by (first | exact Nat.le_refl _ | omega | (simp only [next_push, next_set, next_kill]; omega))) _ | refine Same.kill ?_ (by (first | exact Nat.le_refl _ | omega | (simp only [next_push, next_set, next_kill]; omega))))))) (by omega)) Try.call28 rfl rfl) ?_
      first | refine al_opd rfl rfl rfl (ao_mv (v := .slice _ _ _) rfl) ?_ | refine al_opd rfl rfl rfl (ao_mv (v := v) rfl) ?_ | refine al_opd rfl rfl rfl (ao_mv (v := u) rfl) ?_
      refine al_opd rfl rfl rfl (ao_calld (toHoldS_c (v := u) (l := hs) (hh.mono (by (repeat (first | exact Same.refl _ _ | assumption | refine Same.push ?_ (by (first | exact Nat.le_refl _ | omega | (simp only [next_push, next_set, next_kill]; omega))) _ | refine Same.set ?_ (by (first | exact Nat.le_refl _ | omega | (simp only [next_push, next_set, next_kill]; omega))) _ | refine Same.kill ?_ (by (first | exact Nat.le_refl _ | omega | (simp only [next_push, next_set, next_kill]; omega))))))) (by omega)) Try.call23 rfl rfl) ?_
      refine al_opd rfl rfl rfl (ao_calld (specGaps0_c (L := L) (ks := l) (hs := hs) (Sl.full i16_len (by ((repeat (first | exact blk_push_new _ _ | assumption | apply blk_push_old | apply blk_set_same | refine (blk_set_ne (by first | assumption | omega | (simp only [next_push, next_set, next_kill, ne_eq]; omega))).trans ?_)); (first | done | fail))) rfl rfl rfl) (by ((repeat (first | exact blk_push_new _ _ | assumption | apply blk_push_old | apply blk_set_same | refine (blk_set_ne (by first | assumption | omega | (simp only [next_push, next_set, next_kill, ne_eq]; omega))).trans ?_)); (first | done | fail))) (by omega) (by omega) (by omega) hL hw hv) Try.call52 rfl rfl) ?_
      refine al_opd rfl rfl rfl (ao_mv (v := .tuple _) rfl) ?_
      refine al_opd rfl rfl rfl (ao_extract (v := .slice _ _ _) rfl rfl) ?_
      refine al_opd rfl rfl rfl (ao_extract (v := .int _ _) rfl rfl) ?_
      first | refine al_opd rfl rfl rfl (ao_as (v := .slice _ _ _) rfl) ?_ | refine al_opd rfl rfl rfl (ao_as (v := v) rfl) ?_ | refine al_opd rfl rfl rfl (ao_as (v := u) rfl) ?_
      refine al_opd rfl rfl rfl (ao_as (v := .int _ _) rfl) ?_
      refine al_nilT ?_
      refine aw_seq ?_
      refine aw_region ?_
      refine al_opd rfl rfl rfl (ao_loada Try.isAgg34 Try.sizeOf34 rfl (by ((repeat (first | exact blk_push_new _ _ | assumption | apply blk_push_old | apply blk_set_same | refine (blk_set_ne (by first | assumption | omega | (simp only [next_push, next_set, next_kill, ne_eq]; omega))).trans ?_)); (first | done | fail))) (by rfl) (by first | rfl | (simp; (first | done | fail)))) ?_
      refine al_opd rfl rfl rfl (ao_calld (toRope_c (L := L) (v := v) (l := l) (ha.mono (by (repeat (first | exact Same.refl _ _ | assumption | refine Same.push ?_ (by (first | exact Nat.le_refl _ | omega | (simp only [next_push, next_set, next_kill]; omega))) _ | refine Same.set ?_ (by (first | exact Nat.le_refl _ | omega | (simp only [next_push, next_set, next_kill]; omega))) _ | refine Same.kill ?_ (by (first | exact Nat.le_refl _ | omega | (simp only [next_push, next_set, next_kill]; omega))))))) (by omega)) Try.call28 rfl rfl) ?_
      refine al_opd rfl rfl rfl (ao_alloca (zv37) (by rfl)) ?_
      first | refine al_opd rfl rfl rfl ((ao_storeL Try.sizeOf37 (by rfl) (by rfl) (by ((repeat (first | exact blk_push_new _ _ | assumption | apply blk_push_old | apply blk_set_same | refine (blk_set_ne (by first | assumption | omega | (simp only [next_push, next_set, next_kill, ne_eq]; omega))).trans ?_)); (first | done | fail))) (by first | rfl | (simp; (first | done | fail))) (by first | rfl | (simp; (first | done | fail))) (by first | rfl | (simp; (first | done | fail)))).to (SetR.eq (by (repeat (first | exact SetR.new | exact SetR.same | (apply SetR.old; · exact ⟨_, by ((repeat (first | exact blk_push_new _ _ | assumption | apply blk_push_old | apply blk_set_same | refine (blk_set_ne (by first | assumption | omega | (simp only [next_push, next_set, next_kill, ne_eq]; omega))).trans ?_)); (first | done | fail))⟩) | exact SetR.base))))) ?_ | refine al_opd rfl rfl rfl ((ao_storeP (ds := [.int _ _, .slice _ _ _]) Try.sizeOf37 (by rfl) (by rfl) (by ((repeat (first | exact blk_push_new _ _ | assumption | apply blk_push_old | apply blk_set_same | refine (blk_set_ne (by first | assumption | omega | (simp only [next_push, next_set, next_kill, ne_eq]; omega))).trans ?_)); (first | done | fail))) (by first | rfl | (simp; (first | done | fail))) (by first | rfl | (simp; (first | done | fail))) (by first | decide | (simp; (first | done | fail)) | (simp; omega))).to (SetR.eq (by (repeat (first | exact SetR.new | exact SetR.same | (apply SetR.old; · exact ⟨_, by ((repeat (first | exact blk_push_new _ _ | assumption | apply blk_push_old | apply blk_set_same | refine (blk_set_ne (by first | assumption | omega | (simp only [next_push, next_set, next_kill, ne_eq]; omega))).trans ?_)); (first | done | fail))⟩) | exact SetR.base))))) ?_
      refine al_nilT ?_
      refine aw_seq ?_
      refine aw_region ?_
      first | refine al_opd rfl rfl rfl (ao_mv (v := .slice _ _ _) rfl) ?_ | refine al_opd rfl rfl rfl (ao_mv (v := v) rfl) ?_ | refine al_opd rfl rfl rfl (ao_mv (v := u) rfl) ?_
      refine al_opd rfl rfl rfl (ao_calld (toHoldS_c (v := u) (l := hs) (hh.mono (by (repeat (first | exact Same.refl _ _ | assumption | refine Same.push ?_ (by (first | exact Nat.le_refl _ | omega | (simp only [next_push, next_set, next_kill]; omega))) _ | refine Same.set ?_ (by (first | exact Nat.le_refl _ | omega | (simp only [next_push, next_set, next_kill]; omega))) _ | refine Same.kill ?_ (by (first | exact Nat.le_refl _ | omega | (simp only [next_push, next_set, next_kill]; omega))))))) (by omega)) Try.call23 rfl rfl) ?_
      first | refine al_opd rfl rfl rfl (ao_as (v := .slice _ _ _) rfl) ?_ | refine al_opd rfl rfl rfl (ao_as (v := v) rfl) ?_ | refine al_opd rfl rfl rfl (ao_as (v := u) rfl) ?_
      refine al_nilT ?_
      refine aw_seq ?_
      refine aw_region ?_
      refine al_opd rfl rfl rfl (ao_loada Try.isAgg37 Try.sizeOf37 rfl (by ((repeat (first | exact blk_push_new _ _ | assumption | apply blk_push_old | apply blk_set_same | refine (blk_set_ne (by first | assumption | omega | (simp only [next_push, next_set, next_kill, ne_eq]; omega))).trans ?_)); (first | done | fail))) (by rfl) (by first | rfl | (simp; (first | done | fail)))) ?_
      first | refine al_opd rfl rfl rfl (ao_mv (v := .slice _ _ _) rfl) ?_ | refine al_opd rfl rfl rfl (ao_mv (v := v) rfl) ?_ | refine al_opd rfl rfl rfl (ao_mv (v := u) rfl) ?_
      refine al_opd rfl rfl rfl (ao_calld (implGaps0_c (L := L) (ks := l) (hs := hs) (Sl.full i16_len (by ((repeat (first | exact blk_push_new _ _ | assumption | apply blk_push_old | apply blk_set_same | refine (blk_set_ne (by first | assumption | omega | (simp only [next_push, next_set, next_kill, ne_eq]; omega))).trans ?_)); (first | done | fail))) rfl rfl rfl) (by ((repeat (first | exact blk_push_new _ _ | assumption | apply blk_push_old | apply blk_set_same | refine (blk_set_ne (by first | assumption | omega | (simp only [next_push, next_set, next_kill, ne_eq]; omega))).trans ?_)); (first | done | fail))) (by omega) (by omega) (by omega) hL hw hv) Try.call53 rfl rfl) ?_
      refine al_opd rfl rfl rfl (ao_mv (v := .tuple _) rfl) ?_
      refine al_opd rfl rfl rfl (ao_extract (v := .slice _ _ _) rfl rfl) ?_
      refine al_opd rfl rfl rfl (ao_extract (v := .int _ _) rfl rfl) ?_
      first | refine al_opd rfl rfl rfl (ao_as (v := .slice _ _ _) rfl) ?_ | refine al_opd rfl rfl rfl (ao_as (v := v) rfl) ?_ | refine al_opd rfl rfl rfl (ao_as (v := u) rfl) ?_
      refine al_opd rfl rfl rfl (ao_as (v := .int _ _) rfl) ?_
      refine al_nilT ?_
      refine aw_seq ?_
      refine aw_seq ?_
      refine aw_region ?_
      first | refine al_opd rfl rfl rfl (ao_mv (v := .slice _ _ _) rfl) ?_ | refine al_opd rfl rfl rfl (ao_mv (v := v) rfl) ?_ | refine al_opd rfl rfl rfl (ao_mv (v := u) rfl) ?_
      first | refine al_opd rfl rfl rfl (ao_mv (v := .slice _ _ _) rfl) ?_ | refine al_opd rfl rfl rfl (ao_mv (v := v) rfl) ?_ | refine al_opd rfl rfl rfl (ao_mv (v := u) rfl) ?_
      refine al_opd rfl rfl rfl (ao_calld (eqI64_c (l := []) (m := []) Sl.nil Sl.zero (by simp)) Try.call41 rfl rfl) ?_
      refine al_opd rfl rfl rfl (ao_not rfl) ?_
      refine al_opd rfl rfl rfl (ao_mv (v := .bool _) rfl) ?_
      refine al_cases (d := 49) rfl (fun h3_ => ?_) (fun h3_ => ?_)
      · try simp only [decide_eq_true_eq, decide_eq_false_iff_not, Bool.not_eq_true', Bool.not_eq_false', Bool.and_eq_true, Bool.or_eq_true, Bool.and_eq_false_iff, Bool.or_eq_false_iff, beq_iff_eq, bne_iff_ne, beq_eq_false_iff_ne, bne_eq_false_iff_eq, ne_eq, Decidable.not_not, Bool.decide_eq_true] at h3_
        first | done | omega | (exfalso; revert h3_; simp; (first | done | omega))
      · try simp only [decide_eq_true_eq, decide_eq_false_iff_not, Bool.not_eq_true', Bool.not_eq_false', Bool.and_eq_true, Bool.or_eq_true, Bool.and_eq_false_iff, Bool.or_eq_false_iff, beq_iff_eq, bne_iff_ne, beq_eq_false_iff_ne, bne_eq_false_iff_eq, ne_eq, Decidable.not_not, Bool.decide_eq_true] at h3_
        refine al_gyes rfl rfl rfl rfl rfl (ao_mv (v := .int _ _) rfl) ?_
        refine al_gyes rfl rfl rfl rfl rfl (ao_mv (v := .int _ _) rfl) ?_
        refine al_gyes rfl rfl rfl rfl rfl (ao_neq rfl rfl) ?_
        refine al_opd rfl rfl rfl (ao_pickF rfl (v := .bool _) rfl) ?_
        refine al_nilT ?_
        refine aw_cond rfl (fun h4_ => ?_) (fun h4_ => ?_)
        · try simp only [decide_eq_true_eq, decide_eq_false_iff_not, Bool.not_eq_true', Bool.not_eq_false', Bool.and_eq_true, Bool.or_eq_true, Bool.and_eq_false_iff, Bool.or_eq_false_iff, beq_iff_eq, bne_iff_ne, beq_eq_false_iff_ne, bne_eq_false_iff_eq, ne_eq, Decidable.not_not, Bool.decide_eq_true] at h4_
          first | done | omega | (exfalso; revert h4_; simp; (first | done | omega))
        · try simp only [decide_eq_true_eq, decide_eq_false_iff_not, Bool.not_eq_true', Bool.not_eq_false', Bool.and_eq_true, Bool.or_eq_true, Bool.and_eq_false_iff, Bool.or_eq_false_iff, beq_iff_eq, bne_iff_ne, beq_eq_false_iff_ne, bne_eq_false_iff_eq, ne_eq, Decidable.not_not, Bool.decide_eq_true] at h4_
          refine aw_skipT ?_
          refine aw_seq ?_
          refine aw_seq ?_
          refine aw_draw (m := 5) mo (by kernel_rfl) rfl ?_
          refine dw_opd rfl rfl rfl (ao_loada Try.isAgg37 Try.sizeOf37 rfl (by ((repeat (first | exact blk_push_new _ _ | assumption | apply blk_push_old | apply blk_set_same | refine (blk_set_ne (by first | assumption | omega | (simp only [next_push, next_set, next_kill, ne_eq]; omega))).trans ?_)); (first | done | fail))) (by rfl) (by first | rfl | (simp; (first | done | fail)))) ?_
          refine dw_opd rfl rfl rfl (ao_loada Try.isAgg34 Try.sizeOf34 rfl (by ((repeat (first | exact blk_push_new _ _ | assumption | apply blk_push_old | apply blk_set_same | refine (blk_set_ne (by first | assumption | omega | (simp only [next_push, next_set, next_kill, ne_eq]; omega))).trans ?_)); (first | done | fail))) (by rfl) (by first | rfl | (simp; (first | done | fail)))) ?_
          refine dw_opn rfl rfl rfl (ao_calld (toRope_c (L := L) (v := v) (l := l) (ha.mono (by (repeat (first | exact Same.refl _ _ | assumption | refine Same.push ?_ (by (first | exact Nat.le_refl _ | omega | (simp only [next_push, next_set, next_kill]; omega))) _ | refine Same.set ?_ (by (first | exact Nat.le_refl _ | omega | (simp only [next_push, next_set, next_kill]; omega))) _ | refine Same.kill ?_ (by (first | exact Nat.le_refl _ | omega | (simp only [next_push, next_set, next_kill]; omega))))))) (by omega)) Try.call28 rfl rfl) ?_
          refine dw_opd rfl rfl rfl (ao_calld (eqRope_c (L := L) (M := L) (l := l) (m := l) (Sl.full i16_len (by ((repeat (first | exact blk_push_new _ _ | assumption | apply blk_push_old | apply blk_set_same | refine (blk_set_ne (by first | assumption | omega | (simp only [next_push, next_set, next_kill, ne_eq]; omega))).trans ?_)); (first | done | fail))) rfl rfl rfl) (Sl.full i16_len (by ((repeat (first | exact blk_push_new _ _ | assumption | apply blk_push_old | apply blk_set_same | refine (blk_set_ne (by first | assumption | omega | (simp only [next_push, next_set, next_kill, ne_eq]; omega))).trans ?_)); (first | done | fail))) rfl rfl rfl) (by omega)) Try.call30 rfl rfl) ?_
          refine dw_opd rfl rfl rfl (ao_not rfl) ?_
          refine dw_end ?_
          refine al_nilT ?_
          refine aw_cond rfl (fun h5_ => ?_) (fun h5_ => ?_)
          · try simp only [decide_eq_true_eq, decide_eq_false_iff_not, Bool.not_eq_true', Bool.not_eq_false', Bool.and_eq_true, Bool.or_eq_true, Bool.and_eq_false_iff, Bool.or_eq_false_iff, beq_iff_eq, bne_iff_ne, beq_eq_false_iff_ne, bne_eq_false_iff_eq, ne_eq, Decidable.not_not, Bool.decide_eq_true] at h5_
            first | done | omega | (exfalso; revert h5_; simp; (first | done | omega))
          · try simp only [decide_eq_true_eq, decide_eq_false_iff_not, Bool.not_eq_true', Bool.not_eq_false', Bool.and_eq_true, Bool.or_eq_true, Bool.and_eq_false_iff, Bool.or_eq_false_iff, beq_iff_eq, bne_iff_ne, beq_eq_false_iff_ne, bne_eq_false_iff_eq, ne_eq, Decidable.not_not, Bool.decide_eq_true] at h5_
            refine aw_skipT ?_
            refine aw_seq ?_
            refine aw_seq ?_
            refine aw_region ?_
            first | refine al_opd rfl rfl rfl (ao_mv (v := .slice _ _ _) rfl) ?_ | refine al_opd rfl rfl rfl (ao_mv (v := v) rfl) ?_ | refine al_opd rfl rfl rfl (ao_mv (v := u) rfl) ?_
            first | refine al_opd rfl rfl rfl (ao_mv (v := .slice _ _ _) rfl) ?_ | refine al_opd rfl rfl rfl (ao_mv (v := v) rfl) ?_ | refine al_opd rfl rfl rfl (ao_mv (v := u) rfl) ?_
            refine al_opd rfl rfl rfl (ao_calld (toHoldS_c (v := u) (l := hs) (hh.mono (by (repeat (first | exact Same.refl _ _ | assumption | refine Same.push ?_ (by (first | exact Nat.le_refl _ | omega | (simp only [next_push, next_set, next_kill]; omega))) _ | refine Same.set ?_ (by (first | exact Nat.le_refl _ | omega | (simp only [next_push, next_set, next_kill]; omega))) _ | refine Same.kill ?_ (by (first | exact Nat.le_refl _ | omega | (simp only [next_push, next_set, next_kill]; omega))))))) (by omega)) Try.call23 rfl rfl) ?_
            refine al_opd rfl rfl rfl (ao_calld (eqHoldS_c (l := hs) (m := hs) (Sl.full hold_len (by ((repeat (first | exact blk_push_new _ _ | assumption | apply blk_push_old | apply blk_set_same | refine (blk_set_ne (by first | assumption | omega | (simp only [next_push, next_set, next_kill, ne_eq]; omega))).trans ?_)); (first | done | fail))) rfl rfl rfl) (Sl.full hold_len (by ((repeat (first | exact blk_push_new _ _ | assumption | apply blk_push_old | apply blk_set_same | refine (blk_set_ne (by first | assumption | omega | (simp only [next_push, next_set, next_kill, ne_eq]; omega))).trans ?_)); (first | done | fail))) rfl rfl rfl) (by omega)) Try.call25 rfl rfl) ?_
            refine al_opd rfl rfl rfl (ao_not rfl) ?_
            refine al_nilT ?_
            refine aw_cond rfl (fun h6_ => ?_) (fun h6_ => ?_)
            · try simp only [decide_eq_true_eq, decide_eq_false_iff_not, Bool.not_eq_true', Bool.not_eq_false', Bool.and_eq_true, Bool.or_eq_true, Bool.and_eq_false_iff, Bool.or_eq_false_iff, beq_iff_eq, bne_iff_ne, beq_eq_false_iff_ne, bne_eq_false_iff_eq, ne_eq, Decidable.not_not, Bool.decide_eq_true] at h6_
              first | done | omega | (exfalso; revert h6_; simp; (first | done | omega))
            · try simp only [decide_eq_true_eq, decide_eq_false_iff_not, Bool.not_eq_true', Bool.not_eq_false', Bool.and_eq_true, Bool.or_eq_true, Bool.and_eq_false_iff, Bool.or_eq_false_iff, beq_iff_eq, bne_iff_ne, beq_eq_false_iff_ne, bne_eq_false_iff_eq, ne_eq, Decidable.not_not, Bool.decide_eq_true] at h6_
              refine aw_skipT ?_
              refine aw_seq ?_
              refine aw_region ?_
              refine al_opd rfl rfl rfl (ao_as (v := .int _ _) rfl) ?_
              refine al_nilT ?_
              refine aw_seq ?_
              refine aw_region ?_
              refine al_opd rfl rfl rfl (ao_loada Try.isAgg37 Try.sizeOf37 rfl (by ((repeat (first | exact blk_push_new _ _ | assumption | apply blk_push_old | apply blk_set_same | refine (blk_set_ne (by first | assumption | omega | (simp only [next_push, next_set, next_kill, ne_eq]; omega))).trans ?_)); (first | done | fail))) (by rfl) (by first | rfl | (simp; (first | done | fail)))) ?_
              refine al_opd rfl rfl rfl (ao_mv (v := .int _ _) rfl) ?_
              refine al_opd rfl rfl rfl ((ao_calld (markRope_c (L := L) (l := l) (k := 1) (by ((repeat (first | exact blk_push_new _ _ | assumption | apply blk_push_old | apply blk_set_same | refine (blk_set_ne (by first | assumption | omega | (simp only [next_push, next_set, next_kill, ne_eq]; omega))).trans ?_)); (first | done | fail))) (by omega) (by omega)) Try.call35 rfl rfl).to (SetR.eq (by (repeat (first | exact SetR.new | exact SetR.same | (apply SetR.old; · exact ⟨_, by ((repeat (first | exact blk_push_new _ _ | assumption | apply blk_push_old | apply blk_set_same | refine (blk_set_ne (by first | assumption | omega | (simp only [next_push, next_set, next_kill, ne_eq]; omega))).trans ?_)); (first | done | fail))⟩) | exact SetR.base))))) ?_
              refine al_opd rfl rfl rfl (ao_as (v := .int _ _) rfl) ?_
              refine al_nilT ?_
              refine aw_seq ?_
              refine aw_region ?_
              first | refine al_opd rfl rfl rfl (ao_mv (v := .slice _ _ _) rfl) ?_ | refine al_opd rfl rfl rfl (ao_mv (v := v) rfl) ?_ | refine al_opd rfl rfl rfl (ao_mv (v := u) rfl) ?_
              refine al_opd rfl rfl rfl (ao_mv (v := .int _ _) rfl) ?_
              refine al_opd rfl rfl rfl ((ao_calld (mark_hold_c (l := hs) (k := 1 + l.length) (by ((repeat (first | exact blk_push_new _ _ | assumption | apply blk_push_old | apply blk_set_same | refine (blk_set_ne (by first | assumption | omega | (simp only [next_push, next_set, next_kill, ne_eq]; omega))).trans ?_)); (first | done | fail))) (by omega) (by omega)) Try.call50 rfl rfl).to (SetR.eq (by (repeat (first | exact SetR.new | exact SetR.same | (apply SetR.old; · exact ⟨_, by ((repeat (first | exact blk_push_new _ _ | assumption | apply blk_push_old | apply blk_set_same | refine (blk_set_ne (by first | assumption | omega | (simp only [next_push, next_set, next_kill, ne_eq]; omega))).trans ?_)); (first | done | fail))⟩) | exact SetR.base))))) ?_
              refine al_opd rfl rfl rfl (ao_as (v := .int _ _) rfl) ?_
              refine al_nilT ?_
              refine aw_seq ?_
              refine aw_seq ?_
              refine aw_region ?_
              refine al_opd rfl rfl rfl (ao_mv (v := .int _ _) rfl) ?_
              refine al_opd rfl rfl rfl (ao_lss rfl rfl) ?_
              refine al_opd rfl rfl rfl (ao_mv (v := .bool _) rfl) ?_
              refine al_cases (d := 72) rfl (fun h7_ => ?_) (fun h7_ => ?_)
              · try simp only [decide_eq_true_eq, decide_eq_false_iff_not, Bool.not_eq_true', Bool.not_eq_false', Bool.and_eq_true, Bool.or_eq_true, Bool.and_eq_false_iff, Bool.or_eq_false_iff, beq_iff_eq, bne_iff_ne, beq_eq_false_iff_ne, bne_eq_false_iff_eq, ne_eq, Decidable.not_not, Bool.decide_eq_true] at h7_
                first | done | omega | (exfalso; revert h7_; simp; (first | done | omega))
              · try simp only [decide_eq_true_eq, decide_eq_false_iff_not, Bool.not_eq_true', Bool.not_eq_false', Bool.and_eq_true, Bool.or_eq_true, Bool.and_eq_false_iff, Bool.or_eq_false_iff, beq_iff_eq, bne_iff_ne, beq_eq_false_iff_ne, bne_eq_false_iff_eq, ne_eq, Decidable.not_not, Bool.decide_eq_true] at h7_
                first | refine al_gyes rfl rfl rfl rfl rfl (ao_mv (v := .slice _ _ _) rfl) ?_ | refine al_gyes rfl rfl rfl rfl rfl (ao_mv (v := v) rfl) ?_ | refine al_gyes rfl rfl rfl rfl rfl (ao_mv (v := u) rfl) ?_
                first | refine al_gyes rfl rfl rfl rfl rfl (ao_mv (v := .slice _ _ _) rfl) ?_ | refine al_gyes rfl rfl rfl rfl rfl (ao_mv (v := v) rfl) ?_ | refine al_gyes rfl rfl rfl rfl rfl (ao_mv (v := u) rfl) ?_
                refine al_gyes rfl rfl rfl rfl rfl (ao_calld (eqI64_c (l := []) (m := []) Sl.nil Sl.zero (by simp)) Try.call41 rfl rfl) ?_
                refine al_gyes rfl rfl rfl rfl rfl (ao_not rfl) ?_
                refine al_opd rfl rfl rfl (ao_pickF rfl (v := .bool _) rfl) ?_
                refine al_opd rfl rfl rfl (ao_mv (v := .bool _) rfl) ?_
                refine al_cases (d := 78) rfl (fun h8_ => ?_) (fun h8_ => ?_)
                · try simp only [decide_eq_true_eq, decide_eq_false_iff_not, Bool.not_eq_true', Bool.not_eq_false', Bool.and_eq_true, Bool.or_eq_true, Bool.and_eq_false_iff, Bool.or_eq_false_iff, beq_iff_eq, bne_iff_ne, beq_eq_false_iff_ne, bne_eq_false_iff_eq, ne_eq, Decidable.not_not, Bool.decide_eq_true] at h8_
                  first | done | omega | (exfalso; revert h8_; simp; (first | done | omega))
                · try simp only [decide_eq_true_eq, decide_eq_false_iff_not, Bool.not_eq_true', Bool.not_eq_false', Bool.and_eq_true, Bool.or_eq_true, Bool.and_eq_false_iff, Bool.or_eq_false_iff, beq_iff_eq, bne_iff_ne, beq_eq_false_iff_ne, bne_eq_false_iff_eq, ne_eq, Decidable.not_not, Bool.decide_eq_true] at h8_
                  refine al_gyes rfl rfl rfl rfl rfl (ao_mv (v := .int _ _) rfl) ?_
                  refine al_gyes rfl rfl rfl rfl rfl (ao_mv (v := .int _ _) rfl) ?_
                  refine al_gyes rfl rfl rfl rfl rfl (ao_neq rfl rfl) ?_
                  refine al_opd rfl rfl rfl (ao_pickF rfl (v := .bool _) rfl) ?_
                  refine al_nilT ?_
                  refine aw_cond rfl (fun h9_ => ?_) (fun h9_ => ?_)
                  · try simp only [decide_eq_true_eq, decide_eq_false_iff_not, Bool.not_eq_true', Bool.not_eq_false', Bool.and_eq_true, Bool.or_eq_true, Bool.and_eq_false_iff, Bool.or_eq_false_iff, beq_iff_eq, bne_iff_ne, beq_eq_false_iff_ne, bne_eq_false_iff_eq, ne_eq, Decidable.not_not, Bool.decide_eq_true] at h9_
                    first | done | omega | (exfalso; revert h9_; simp; (first | done | omega))
                  · try simp only [decide_eq_true_eq, decide_eq_false_iff_not, Bool.not_eq_true', Bool.not_eq_false', Bool.and_eq_true, Bool.or_eq_true, Bool.and_eq_false_iff, Bool.or_eq_false_iff, beq_iff_eq, bne_iff_ne, beq_eq_false_iff_ne, bne_eq_false_iff_eq, ne_eq, Decidable.not_not, Bool.decide_eq_true] at h9_
                    refine aw_skipT ?_
                    refine aw_seq ?_
                    refine aw_region ?_
                    refine al_opd rfl rfl rfl (ao_as (v := .int _ _) rfl) ?_
                    refine al_nilT ?_
                    refine aw_seq ?_
                    refine aw_region ?_
                    first | refine al_opd rfl rfl rfl (ao_mv (v := .slice _ _ _) rfl) ?_ | refine al_opd rfl rfl rfl (ao_mv (v := v) rfl) ?_ | refine al_opd rfl rfl rfl (ao_mv (v := u) rfl) ?_
                    refine al_opd rfl rfl rfl (ao_mv (v := .int _ _) rfl) ?_
                    refine al_opd rfl rfl rfl (ao_calld (mark0_i64_c (k := 1)) Try.call42 rfl rfl) ?_
                    refine al_opd rfl rfl rfl (ao_as (v := .int _ _) rfl) ?_
                    refine al_nilT ?_
                    refine aw_seq ?_
                    refine aw_region ?_
                    refine al_opd rfl rfl rfl (ao_as (v := .int _ _) rfl) ?_
                    refine al_nilT ?_
                    refine aw_seq ?_
                    refine aw_region ?_
                    first | refine al_opd rfl rfl rfl (ao_mv (v := .slice _ _ _) rfl) ?_ | refine al_opd rfl rfl rfl (ao_mv (v := v) rfl) ?_ | refine al_opd rfl rfl rfl (ao_mv (v := u) rfl) ?_
                    refine al_opd rfl rfl rfl (ao_mv (v := .int _ _) rfl) ?_
                    refine al_opd rfl rfl rfl (ao_calld (held_i64_c (n := 0) (k := 1) Sl.nil (by omega) (by omega)) Try.call43 rfl rfl) ?_
                    refine al_opd rfl rfl rfl (ao_as (v := .int _ _) rfl) ?_
                    refine al_nilT ?_
                    refine aw_seq ?_
                    refine aw_seq ?_
                    refine aw_region ?_
                    refine al_opd rfl rfl rfl (ao_mv (v := .int _ _) rfl) ?_
                    refine al_opd rfl rfl rfl (ao_lss rfl rfl) ?_
                    refine al_nilT ?_
                    refine aw_cond rfl (fun h10_ => ?_) (fun h10_ => ?_)
                    · try simp only [decide_eq_true_eq, decide_eq_false_iff_not, Bool.not_eq_true', Bool.not_eq_false', Bool.and_eq_true, Bool.or_eq_true, Bool.and_eq_false_iff, Bool.or_eq_false_iff, beq_iff_eq, bne_iff_ne, beq_eq_false_iff_ne, bne_eq_false_iff_eq, ne_eq, Decidable.not_not, Bool.decide_eq_true] at h10_
                      first | done | omega | (exfalso; revert h10_; simp; (first | done | omega))
                    · try simp only [decide_eq_true_eq, decide_eq_false_iff_not, Bool.not_eq_true', Bool.not_eq_false', Bool.and_eq_true, Bool.or_eq_true, Bool.and_eq_false_iff, Bool.or_eq_false_iff, beq_iff_eq, bne_iff_ne, beq_eq_false_iff_ne, bne_eq_false_iff_eq, ne_eq, Decidable.not_not, Bool.decide_eq_true] at h10_
                      refine aw_skipT ?_
                      refine aw_seq ?_
                      refine aw_seq ?_
                      refine aw_region ?_
                      refine al_opd rfl rfl rfl (ao_mv (v := .int _ _) rfl) ?_
                      refine al_opd rfl rfl rfl (ao_mv (v := .int _ _) rfl) ?_
                      refine al_opd rfl rfl rfl (ao_neq rfl rfl) ?_
                      refine al_nilT ?_
                      refine aw_cond rfl (fun h11_ => ?_) (fun h11_ => ?_)
                      · try simp only [decide_eq_true_eq, decide_eq_false_iff_not, Bool.not_eq_true', Bool.not_eq_false', Bool.and_eq_true, Bool.or_eq_true, Bool.and_eq_false_iff, Bool.or_eq_false_iff, beq_iff_eq, bne_iff_ne, beq_eq_false_iff_ne, bne_eq_false_iff_eq, ne_eq, Decidable.not_not, Bool.decide_eq_true] at h11_
                        first | done | omega | (exfalso; revert h11_; simp; (first | done | omega))
                      · try simp only [decide_eq_true_eq, decide_eq_false_iff_not, Bool.not_eq_true', Bool.not_eq_false', Bool.and_eq_true, Bool.or_eq_true, Bool.and_eq_false_iff, Bool.or_eq_false_iff, beq_iff_eq, bne_iff_ne, beq_eq_false_iff_ne, bne_eq_false_iff_eq, ne_eq, Decidable.not_not, Bool.decide_eq_true] at h11_
                        refine aw_skipT ?_
                        refine aw_seq ?_
                        refine aw_region ?_
                        refine al_opd rfl rfl rfl (ao_loada Try.isAgg34 Try.sizeOf34 rfl (by ((repeat (first | exact blk_push_new _ _ | assumption | apply blk_push_old | apply blk_set_same | refine (blk_set_ne (by first | assumption | omega | (simp only [next_push, next_set, next_kill, ne_eq]; omega))).trans ?_)); (first | done | fail))) (by rfl) (by first | rfl | (simp; (first | done | fail)))) ?_
                        refine al_opd rfl rfl rfl (ao_calld (toRope_c (L := L) (v := v) (l := l) (ha.mono (by (repeat (first | exact Same.refl _ _ | assumption | refine Same.push ?_ (by (first | exact Nat.le_refl _ | omega | (simp only [next_push, next_set, next_kill]; omega))) _ | refine Same.set ?_ (by (first | exact Nat.le_refl _ | omega | (simp only [next_push, next_set, next_kill]; omega))) _ | refine Same.kill ?_ (by (first | exact Nat.le_refl _ | omega | (simp only [next_push, next_set, next_kill]; omega))))))) (by omega)) Try.call28 rfl rfl) ?_
                        first | refine al_opd rfl rfl rfl (ao_mv (v := .slice _ _ _) rfl) ?_ | refine al_opd rfl rfl rfl (ao_mv (v := v) rfl) ?_ | refine al_opd rfl rfl rfl (ao_mv (v := u) rfl) ?_
                        refine al_opd rfl rfl rfl (ao_calld (toHoldS_c (v := u) (l := hs) (hh.mono (by (repeat (first | exact Same.refl _ _ | assumption | refine Same.push ?_ (by (first | exact Nat.le_refl _ | omega | (simp only [next_push, next_set, next_kill]; omega))) _ | refine Same.set ?_ (by (first | exact Nat.le_refl _ | omega | (simp only [next_push, next_set, next_kill]; omega))) _ | refine Same.kill ?_ (by (first | exact Nat.le_refl _ | omega | (simp only [next_push, next_set, next_kill]; omega))))))) (by omega)) Try.call23 rfl rfl) ?_
                        refine al_opd rfl rfl rfl (ao_calld (implGaps0_c (L := L) (ks := l) (hs := hs) (Sl.full i16_len (by ((repeat (first | exact blk_push_new _ _ | assumption | apply blk_push_old | apply blk_set_same | refine (blk_set_ne (by first | assumption | omega | (simp only [next_push, next_set, next_kill, ne_eq]; omega))).trans ?_)); (first | done | fail))) rfl rfl rfl) (by ((repeat (first | exact blk_push_new _ _ | assumption | apply blk_push_old | apply blk_set_same | refine (blk_set_ne (by first | assumption | omega | (simp only [next_push, next_set, next_kill, ne_eq]; omega))).trans ?_)); (first | done | fail))) (by omega) (by omega) (by omega) hL hw hv) Try.call53 rfl rfl) ?_
                        refine al_opd rfl rfl rfl (ao_mv (v := .tuple _) rfl) ?_
                        refine al_opd rfl rfl rfl (ao_extract (v := .slice _ _ _) rfl rfl) ?_
                        refine al_opd rfl rfl rfl (ao_extract (v := .int _ _) rfl rfl) ?_
                        first | refine al_opd rfl rfl rfl (ao_as (v := .slice _ _ _) rfl) ?_ | refine al_opd rfl rfl rfl (ao_as (v := v) rfl) ?_ | refine al_opd rfl rfl rfl (ao_as (v := u) rfl) ?_
                        refine al_opd rfl rfl rfl (ao_as (v := .int _ _) rfl) ?_
                        refine al_nilT ?_
                        refine aw_seq ?_
                        refine aw_seq ?_
                        refine aw_region ?_
                        first | refine al_opd rfl rfl rfl (ao_mv (v := .slice _ _ _) rfl) ?_ | refine al_opd rfl rfl rfl (ao_mv (v := v) rfl) ?_ | refine al_opd rfl rfl rfl (ao_mv (v := u) rfl) ?_
                        first | refine al_opd rfl rfl rfl (ao_mv (v := .slice _ _ _) rfl) ?_ | refine al_opd rfl rfl rfl (ao_mv (v := v) rfl) ?_ | refine al_opd rfl rfl rfl (ao_mv (v := u) rfl) ?_
                        refine al_opd rfl rfl rfl (ao_calld (eqI64_c (l := []) (m := []) Sl.nil Sl.zero (by simp)) Try.call41 rfl rfl) ?_
                        refine al_opd rfl rfl rfl (ao_not rfl) ?_
                        refine al_opd rfl rfl rfl (ao_mv (v := .bool _) rfl) ?_
                        refine al_cases (d := 106) rfl (fun h12_ => ?_) (fun h12_ => ?_)
                        · try simp only [decide_eq_true_eq, decide_eq_false_iff_not, Bool.not_eq_true', Bool.not_eq_false', Bool.and_eq_true, Bool.or_eq_true, Bool.and_eq_false_iff, Bool.or_eq_false_iff, beq_iff_eq, bne_iff_ne, beq_eq_false_iff_ne, bne_eq_false_iff_eq, ne_eq, Decidable.not_not, Bool.decide_eq_true] at h12_
                          first | done | omega | (exfalso; revert h12_; simp; (first | done | omega))
                        · try simp only [decide_eq_true_eq, decide_eq_false_iff_not, Bool.not_eq_true', Bool.not_eq_false', Bool.and_eq_true, Bool.or_eq_true, Bool.and_eq_false_iff, Bool.or_eq_false_iff, beq_iff_eq, bne_iff_ne, beq_eq_false_iff_ne, bne_eq_false_iff_eq, ne_eq, Decidable.not_not, Bool.decide_eq_true] at h12_
                          refine al_gyes rfl rfl rfl rfl rfl (ao_mv (v := .int _ _) rfl) ?_
                          refine al_gyes rfl rfl rfl rfl rfl (ao_mv (v := .int _ _) rfl) ?_
                          refine al_gyes rfl rfl rfl rfl rfl (ao_neq rfl rfl) ?_
                          refine al_opd rfl rfl rfl (ao_pickF rfl (v := .bool _) rfl) ?_
                          refine al_nilT ?_
                          refine aw_cond rfl (fun h13_ => ?_) (fun h13_ => ?_)
                          · try simp only [decide_eq_true_eq, decide_eq_false_iff_not, Bool.not_eq_true', Bool.not_eq_false', Bool.and_eq_true, Bool.or_eq_true, Bool.and_eq_false_iff, Bool.or_eq_false_iff, beq_iff_eq, bne_iff_ne, beq_eq_false_iff_ne, bne_eq_false_iff_eq, ne_eq, Decidable.not_not, Bool.decide_eq_true] at h13_
                            first | done | omega | (exfalso; revert h13_; simp; (first | done | omega))
                          · try simp only [decide_eq_true_eq, decide_eq_false_iff_not, Bool.not_eq_true', Bool.not_eq_false', Bool.and_eq_true, Bool.or_eq_true, Bool.and_eq_false_iff, Bool.or_eq_false_iff, beq_iff_eq, bne_iff_ne, beq_eq_false_iff_ne, bne_eq_false_iff_eq, ne_eq, Decidable.not_not, Bool.decide_eq_true] at h13_
                            refine aw_skipT ?_
                            refine aw_seq ?_
                            refine aw_region ?_
                            refine al_opd rfl rfl rfl (ao_as (v := .int _ _) rfl) ?_
                            refine al_nilT ?_
                            refine aw_seq ?_
                            refine aw_region ?_
                            first | refine al_opd rfl rfl rfl (ao_mv (v := .slice _ _ _) rfl) ?_ | refine al_opd rfl rfl rfl (ao_mv (v := v) rfl) ?_ | refine al_opd rfl rfl rfl (ao_mv (v := u) rfl) ?_
                            refine al_opd rfl rfl rfl (ao_mv (v := .int _ _) rfl) ?_
                            refine al_opd rfl rfl rfl (ao_calld (held_i64_c (n := 0) (k := 1) Sl.nil (by omega) (by omega)) Try.call43 rfl rfl) ?_
                            refine al_opd rfl rfl rfl (ao_as (v := .int _ _) rfl) ?_
                            refine al_nilT ?_
                            refine aw_seq ?_
                            refine aw_seq ?_
                            refine aw_region ?_
                            refine al_opd rfl rfl rfl (ao_mv (v := .int _ _) rfl) ?_
                            refine al_opd rfl rfl rfl (ao_lss rfl rfl) ?_
                            refine al_nilT ?_
                            refine aw_cond rfl (fun h14_ => ?_) (fun h14_ => ?_)
                            · try simp only [decide_eq_true_eq, decide_eq_false_iff_not, Bool.not_eq_true', Bool.not_eq_false', Bool.and_eq_true, Bool.or_eq_true, Bool.and_eq_false_iff, Bool.or_eq_false_iff, beq_iff_eq, bne_iff_ne, beq_eq_false_iff_ne, bne_eq_false_iff_eq, ne_eq, Decidable.not_not, Bool.decide_eq_true] at h14_
                              first | done | omega | (exfalso; revert h14_; simp; (first | done | omega))
                            · try simp only [decide_eq_true_eq, decide_eq_false_iff_not, Bool.not_eq_true', Bool.not_eq_false', Bool.and_eq_true, Bool.or_eq_true, Bool.and_eq_false_iff, Bool.or_eq_false_iff, beq_iff_eq, bne_iff_ne, beq_eq_false_iff_ne, bne_eq_false_iff_eq, ne_eq, Decidable.not_not, Bool.decide_eq_true] at h14_
                              refine aw_skipT ?_
                              refine aw_seq ?_
                              refine aw_seq ?_
                              refine aw_region ?_
                              refine al_opd rfl rfl rfl (ao_mv (v := .int _ _) rfl) ?_
                              refine al_opd rfl rfl rfl (ao_mv (v := .int _ _) rfl) ?_
                              refine al_opd rfl rfl rfl (ao_neq rfl rfl) ?_
                              refine al_nilT ?_
                              refine aw_cond rfl (fun h15_ => ?_) (fun h15_ => ?_)
                              · try simp only [decide_eq_true_eq, decide_eq_false_iff_not, Bool.not_eq_true', Bool.not_eq_false', Bool.and_eq_true, Bool.or_eq_true, Bool.and_eq_false_iff, Bool.or_eq_false_iff, beq_iff_eq, bne_iff_ne, beq_eq_false_iff_ne, bne_eq_false_iff_eq, ne_eq, Decidable.not_not, Bool.decide_eq_true] at h15_
                                first | done | omega | (exfalso; revert h15_; simp; (first | done | omega))
                              · try simp only [decide_eq_true_eq, decide_eq_false_iff_not, Bool.not_eq_true', Bool.not_eq_false', Bool.and_eq_true, Bool.or_eq_true, Bool.and_eq_false_iff, Bool.or_eq_false_iff, beq_iff_eq, bne_iff_ne, beq_eq_false_iff_ne, bne_eq_false_iff_eq, ne_eq, Decidable.not_not, Bool.decide_eq_true] at h15_
                                refine aw_skipT ?_
                                refine aw_seq ?_
                                refine aw_region ?_
                                refine al_opd rfl rfl rfl (ao_as (v := .bool _) rfl) ?_
                                refine al_nilT ?_
                                refine aw_ret ?_
                                refine ends1 rfl (rv_tmp (v := .bool _) rfl) ?_
                                exact ⟨by first | rfl | (simp [*]; (first | done | fail)), by (repeat (first | exact Same.refl _ _ | assumption | refine Same.push ?_ (by (first | exact Nat.le_refl _ | omega | (simp only [next_push, next_set, next_kill]; omega))) _ | refine Same.set ?_ (by (first | exact Nat.le_refl _ | omega | (simp only [next_push, next_set, next_kill]; omega))) _ | refine Same.kill ?_ (by (first | exact Nat.le_refl _ | omega | (simp only [next_push, next_set, next_kill]; omega)))))⟩

theorem lawGaps_c {L : Int} {v u : Value} {l : List Int} {hs : List Hold} {H : AHeap} (ha : Sl H i16 1 v l) (hh : Sl H hold 2 u hs) (hl : l.length ≤ 9223372036854775807) (hm : hs.length ≤ 9223372036854775807) (hL : -32768 ≤ L ∧ L ≤ 32767) (hw : holdOk hs) : ACd Try.prog 14 [.agg #[.int .i16 L, v], u] H (.bool true) H := by
  by_cases hv : okRope L l ∧ okHolds l.length hs
  · exact lawGaps1_c ha hh hl hm hL hw hv
  · exact lawGaps0_c ha hh hl hm hL hw hv

end Go.Proofs.Ytohaokdgokknaaa
