/- The law FnExactWayBetween of the folder answers true for all its arguments. -/
import Derived.Test.YtkjmcolnoehjbaaRows
import Derived.Test.YtkjmcolnoehjbaaLwy
import Derived.Test.YtkjmcolnoehjbaaOrd
import Derived.WalkKit
import Derived.ProofKit
import Derived.OpenShut
import Derived.ShutString
import Derived.ChangeOld
import Derived.Below
import Derived.SizedLaws
import Derived.Carry
namespace Go.Proofs.Ytkjmcolnoehjbaa.fnExactWayBetween
open Go Go.AW Go.ChangeShapes Go.WideShapes Go.ChangeAt Go.RowKit
open Go.ChangeMaps (open_string shut_string)
set_option linter.unusedVariables false
set_option linter.unusedSimpArgs false
theorem own : ownKnob Try.prog.godebug = none := by kernel_rfl
theorem laidOut : laidOutB Try.prog = true := by kernel_rfl
theorem dec22 : Dec Try.prog 22 1 i8 (fun n => (Lit.int .i8 n).wf = true) := dec_int Try.underlying22 (by kernel_rfl)
theorem dec24 : Dec Try.prog 24 10 wallsC rowsOk := dec_walls Try.underlying24 Try.underlying23 (by kernel_rfl) (by kernel_rfl)
theorem dec26 : Dec Try.prog 26 12 roomC wfRoom := dec_room Try.underlying26 dec22 dec22 dec24 (by kernel_rfl) rfl rfl rfl
theorem dec28 : Dec Try.prog 28 2 spot (fun x => (Lit.int .i8 x.x).wf = true ∧ (Lit.int .i8 x.y).wf = true) := dec_struct2 (mk := Spot.mk) Try.underlying28 dec22 dec22 (by kernel_rfl) rfl rfl (fun _ _ => rfl) (fun c => ⟨c.1, c.2, rfl⟩) (fun _ _ x y => ⟨x, y⟩)
set_option maxHeartbeats 8000000 in
set_option maxRecDepth 100000 in
theorem lifted (os : Os) (started : os.Started) (H : Type) (enc : TypeId × Value → H) :
    ReturnsInHanded {} Try.checked os 9 .any (Rows.fnExactWayBetweenSpec.pre6 enc Try.prog Try.f9 Rows.fnExactWayBetweenRow.domain false) (Rows.fnExactWayBetweenSpec.post enc Try.prog Try.f9 false true false false) := by
  refine returnsInHanded_of_change_sized (C := Try.checked) own started (by kernel_rfl) Try.func9
    (ChangeSpec.witness6 (enc := enc) (C := Try.checked) false ⟨#[], #[.agg #[.int .i8 0, .int .i8 0, .int .u16 0, .int .u16 0, .int .u16 0, .int .u16 0, .int .u16 0, .int .u16 0, .int .u16 0, .int .u16 0, .int .u16 0, .int .u16 0], .agg #[.int .i8 0, .int .i8 0], .agg #[.int .i8 0, .int .i8 0]], []⟩ 8 (by kernel_rfl) (by kernel_rfl) (by kernel_rfl) (by kernel_rfl)) ?_
  intro W base args ds gs before hval0 hW hcnd hsz0 _
  have hval : ∀ (j : Nat) t v, Try.f9.params[j]? = some t → args[j]? = some v → Value.okWide Try.prog W .any base t v := hval0
  have hW' := hW
  obtain ⟨p, q, hA0, hV, rfl, hfz, hnd⟩ := hW
  have hA : DataW.TrodAll enc Try.prog W 0 (fun _ => true) true Try.f9.params.toList args.toList ds p := hA0
  rw [Try.params9] at hA hval
  obtain ⟨v0, vs0, d0, ds0, p0, q0, hargs, rfl, rfl, h0, r0⟩ := trodAll_cons hA
  obtain ⟨v1, vs1, d1, ds1, p1, q1, rfl, rfl, rfl, h1, r1⟩ := trodAll_cons r0
  obtain ⟨v2, vs2, d2, ds2, p2, q2, rfl, rfl, rfl, h2, r2⟩ := trodAll_cons r1
  obtain ⟨rfl, rfl, rfl⟩ := trodAll_nil r2
  obtain rfl : args = #[v0, v1, v2] := by cases args; simp_all
  obtain ⟨rfl, rfl⟩ := trodVars_none hV
  have E0 := Emb.start W
  have t0 := h0
  have lt0 : ∀ x ∈ p0, x.block < W.heap.size := by obtain ⟨m, hm⟩ := t0; exact DataW.trod_lt m _ _ _ hm
  obtain ⟨s0, rfl, k0⟩ := argPlain dec26 Try.underlying26 (hval 0 26 v0 rfl rfl) h0
  have t1 := h1
  have lt1 : ∀ x ∈ p1, x.block < W.heap.size := by obtain ⟨m, hm⟩ := t1; exact DataW.trod_lt m _ _ _ hm
  obtain ⟨s1, rfl, k1⟩ := argPlain dec28 Try.underlying28 (hval 1 28 v1 rfl rfl) h1
  have t2 := h2
  have lt2 : ∀ x ∈ p2, x.block < W.heap.size := by obtain ⟨m, hm⟩ := t2; exact DataW.trod_lt m _ _ _ hm
  obtain ⟨s2, rfl, k2⟩ := argPlain dec28 Try.underlying28 (hval 2 28 v2 rfl rfl) h2
  clear hA0 hval0 hsz0
  have hc := lawWay_c (r := s0) (a := s1) (b := s2) (H := noH) k0 ⟨wf_i8 k1.1, wf_i8 k1.2⟩ ⟨wf_i8 k2.1, wf_i8 k2.2⟩
  have hk := Emb.calls (args' := #[.agg (roomC s0).toArray, .agg (spot s1).toArray, .agg (spot s2).toArray]) E0 (by rfl) (vrs3 (vr_plain _ (by rfl)) (vr_plain _ (by rfl)) (vr_plain _ (by rfl))) hc
  refine hk.mono ?_
  rintro e W' ⟨he, bel⟩
  subst he
  exact ⟨_, rfl, _, _, _, [], _, [], hW', trodAll_mk1 (shut_bool Try.underlying4 _), (trodAll_cons_mk (Below.trod laidOut (by kernel_rfl) (of_decide_eq_true (by kernel_rfl)) t0 bel lt0) (trodAll_cons_mk (Below.trod laidOut (by kernel_rfl) (of_decide_eq_true (by kernel_rfl)) t1 bel lt1) (trodAll_cons_mk (Below.trod laidOut (by kernel_rfl) (of_decide_eq_true (by kernel_rfl)) t2 bel lt2) trodAll_mk0))), rfl, bel.frame _, fun h => by cases h⟩
set_option maxRecDepth 100000 in
theorem words : ∃ r, behindMainWord (wordsSigns Try.pinned.checked.prog.initOrder.toList) = "cut".toList :: r := words_of ⟨_, rfl, by kernel_rfl⟩
theorem closed : joinedFacts Try.pinned.checked.prog 9 Try.f9 Rows.fnExactWayBetweenSpec Rows.fnExactWayBetweenRow = true := by
  unfold joinedFacts
  rw [enter_of words (by kernel_rfl) (by kernel_rfl) (by kernel_rfl), lifts_of words, make_of words]
  kernel_rfl
theorem over : Rows.fnExactWayBetweenRow.holds Try.pinned (OpenSpec.ofChange Rows.fnExactWayBetweenSpec) :=
  OpenClaim.holds_of_wide 9 Try.f9 rfl rfl rfl rfl rfl rfl rfl ⟨rfl, rfl, rfl, rfl, rfl⟩ rfl rfl rfl rfl rfl (by kernel_rfl) Try.func9 closed
    (of_decide_eq_true (by kernel_rfl)) (by unfold Func.isWrapper; first | (rw [if_pos (by decide +kernel)]; kernel_rfl) | (rw [if_neg (by decide +kernel)]; exact ⟨rfl, rfl⟩))
    (fun os started H enc _ => lifted os started H enc)
theorem proved : Rows.FnExactWayBetweenSaid := over
end Go.Proofs.Ytkjmcolnoehjbaa.fnExactWayBetween
namespace Go.Proofs.Ytkjmcolnoehjbaa
/-- The row, under a short name, for the claim. -/
theorem fnExactWayBetween_holds : Rows.FnExactWayBetweenSaid := fnExactWayBetween.proved
end Go.Proofs.Ytkjmcolnoehjbaa
