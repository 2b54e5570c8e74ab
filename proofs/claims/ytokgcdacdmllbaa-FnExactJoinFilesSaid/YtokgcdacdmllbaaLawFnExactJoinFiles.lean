/- The law FnExactJoinFiles of the folder answers true for all its arguments. -/
import Derived.Test.YtokgcdacdmllbaaRows
import Derived.Test.YtokgcdacdmllbaaFkl
import Derived.Test.YtokgcdacdmllbaaOrd
import Derived.WalkKit
import Derived.ProofKit
import Derived.OpenShut
import Derived.ShutString
import Derived.ChangeOld
import Derived.Below
import Derived.SizedLaws
import Derived.Carry
namespace Go.Proofs.Ytokgcdacdmllbaa.fnExactJoinFiles
open Go Go.AW Go.ChangeShapes Go.WideShapes Go.ChangeAt Go.RowKit
open Go.ChangeMaps (open_string shut_string)
set_option linter.unusedVariables false
set_option linter.unusedSimpArgs false
theorem own : ownKnob Try.prog.godebug = none := by kernel_rfl
theorem laidOut : laidOutB Try.prog = true := by kernel_rfl
theorem dec38 : Dec Try.prog 38 1 i8 (fun n => (Lit.int .i8 n).wf = true) := dec_int Try.underlying38 (by kernel_rfl)
theorem dec40 : Dec Try.prog 40 10 wallsC rowsOk := dec_walls Try.underlying40 Try.underlying39 (by kernel_rfl) (by kernel_rfl)
theorem dec42 : Dec Try.prog 42 12 roomC wfRoom := dec_room Try.underlying42 dec38 dec38 dec40 (by kernel_rfl) rfl rfl rfl
theorem dec61 : Dec Try.prog 61 2 spot (fun x => (Lit.int .i8 x.x).wf = true ∧ (Lit.int .i8 x.y).wf = true) := dec_struct2 (mk := Spot.mk) Try.underlying61 dec38 dec38 (by kernel_rfl) rfl rfl (fun _ _ => rfl) (fun c => ⟨c.1, c.2, rfl⟩) (fun _ _ x y => ⟨x, y⟩)
set_option maxHeartbeats 8000000 in
set_option maxRecDepth 100000 in
theorem lifted (os : Os) (started : os.Started) (H : Type) (enc : TypeId × Value → H) :
    ReturnsInHanded {} Try.checked os 15 .any (Rows.fnExactJoinFilesSpec.pre6 enc Try.prog Try.f15 Rows.fnExactJoinFilesRow.domain false) (Rows.fnExactJoinFilesSpec.post enc Try.prog Try.f15 false true false false) := by
  refine returnsInHanded_of_change_sized (C := Try.checked) own started (by kernel_rfl) Try.func15
    (ChangeSpec.witness6 (enc := enc) (C := Try.checked) false ⟨#[], #[.agg #[.int .i8 0, .int .i8 0, .int .u16 0, .int .u16 0, .int .u16 0, .int .u16 0, .int .u16 0, .int .u16 0, .int .u16 0, .int .u16 0, .int .u16 0, .int .u16 0], .slice none 0 0, .slice none 0 0], []⟩ 8 (by kernel_rfl) (by kernel_rfl) (by kernel_rfl) (by kernel_rfl)) ?_
  intro W base args ds gs before hval0 hW hcnd hsz0 _
  have hval : ∀ (j : Nat) t v, Try.f15.params[j]? = some t → args[j]? = some v → Value.okWide Try.prog W .any base t v := hval0
  have hW' := hW
  obtain ⟨p, q, hA0, hV, rfl, hfz, hnd⟩ := hW
  have hA : DataW.TrodAll enc Try.prog W 0 (fun _ => true) true Try.f15.params.toList args.toList ds p := hA0
  rw [Try.params15] at hA hval
  obtain ⟨v0, vs0, d0, ds0, p0, q0, hargs, rfl, rfl, h0, r0⟩ := trodAll_cons hA
  obtain ⟨v1, vs1, d1, ds1, p1, q1, rfl, rfl, rfl, h1, r1⟩ := trodAll_cons r0
  obtain ⟨v2, vs2, d2, ds2, p2, q2, rfl, rfl, rfl, h2, r2⟩ := trodAll_cons r1
  obtain ⟨rfl, rfl, rfl⟩ := trodAll_nil r2
  obtain rfl : args = #[v0, v1, v2] := by cases args; simp_all
  obtain ⟨rfl, rfl⟩ := trodVars_none hV
  have E0 := Emb.start W
  have t0 := h0
  have lt0 : ∀ x ∈ p0, x.block < W.heap.size := by obtain ⟨m, hm⟩ := t0; exact DataW.trod_lt m _ _ _ hm
  obtain ⟨s0, rfl, k0⟩ := argPlain dec42 Try.underlying42 (hval 0 42 v0 rfl rfl) h0
  have t1 := h1
  have lt1 : ∀ x ∈ p1, x.block < W.heap.size := by obtain ⟨m, hm⟩ := t1; exact DataW.trod_lt m _ _ _ hm
  obtain ⟨β1, H1, u1, l1, E2, s1, le1, x1, V1, S1, n1, k1⟩ := Emb.argSlice dec61 Try.underlying22 (by decide) (hval 1 22 v1 rfl rfl) h1 E0
  have t2 := h2
  have lt2 : ∀ x ∈ p2, x.block < W.heap.size := by obtain ⟨m, hm⟩ := t2; exact DataW.trod_lt m _ _ _ hm
  obtain ⟨β2, H2, u2, l2, E3, s2, le2, x2, V2, S2, n2, k2⟩ := Emb.argSlice dec61 Try.underlying22 (by decide) (hval 2 22 v2 rfl rfl) h2 E2
  replace S1 := S1.mono s2
  replace V1 := V1.mono x2
  clear hA0 hval0 hsz0
  have hc := lawJoin_c (r := s0) k0 S1 S2 n1 n2 (fun i x h => ⟨wf_i8 (k1 x (List.mem_of_getElem? h)).1, wf_i8 (k1 x (List.mem_of_getElem? h)).2⟩) (fun i x h => ⟨wf_i8 (k2 x (List.mem_of_getElem? h)).1, wf_i8 (k2 x (List.mem_of_getElem? h)).2⟩)
  have hk := Emb.calls (args' := #[.agg (roomC s0).toArray, v1, v2]) E3 (by rfl) (vrs3 (vr_plain _ (by rfl)) V1 V2) hc
  refine hk.mono ?_
  rintro e W' ⟨he, bel⟩
  subst he
  exact ⟨_, rfl, _, _, _, [], _, [], hW', trodAll_mk1 (shut_bool Try.underlying4 _), (trodAll_cons_mk (Below.trod laidOut (by kernel_rfl) (of_decide_eq_true (by kernel_rfl)) t0 bel lt0) (trodAll_cons_mk (Below.trod laidOut (by kernel_rfl) (of_decide_eq_true (by kernel_rfl)) t1 bel lt1) (trodAll_cons_mk (Below.trod laidOut (by kernel_rfl) (of_decide_eq_true (by kernel_rfl)) t2 bel lt2) trodAll_mk0))), rfl, bel.frame _, fun h => by cases h⟩
set_option maxRecDepth 100000 in
theorem words : ∃ r, behindMainWord (wordsSigns Try.pinned.checked.prog.initOrder.toList) = "cut".toList :: r := words_of ⟨_, rfl, by kernel_rfl⟩
theorem closed : joinedFacts Try.pinned.checked.prog 15 Try.f15 Rows.fnExactJoinFilesSpec Rows.fnExactJoinFilesRow = true := by
  unfold joinedFacts
  rw [enter_of words (by kernel_rfl) (by kernel_rfl) (by kernel_rfl), lifts_of words, make_of words]
  kernel_rfl
theorem over : Rows.fnExactJoinFilesRow.holds Try.pinned (OpenSpec.ofChange Rows.fnExactJoinFilesSpec) :=
  OpenClaim.holds_of_wide 15 Try.f15 rfl rfl rfl rfl rfl rfl rfl ⟨rfl, rfl, rfl, rfl, rfl⟩ rfl rfl rfl rfl rfl (by kernel_rfl) Try.func15 closed
    (of_decide_eq_true (by kernel_rfl)) (by unfold Func.isWrapper; first | (rw [if_pos (by decide +kernel)]; kernel_rfl) | (rw [if_neg (by decide +kernel)]; exact ⟨rfl, rfl⟩))
    (fun os started H enc _ => lifted os started H enc)
theorem proved : Rows.FnExactJoinFilesSaid := over
end Go.Proofs.Ytokgcdacdmllbaa.fnExactJoinFiles
namespace Go.Proofs.Ytokgcdacdmllbaa
/-- The row, under a short name, for the claim. -/
theorem fnExactJoinFiles_holds : Rows.FnExactJoinFilesSaid := fnExactJoinFiles.proved
end Go.Proofs.Ytokgcdacdmllbaa
