/- The law FnExactLetGo of the folder answers true for all its arguments. -/
import Derived.Test.YtdcmjbaahcipoaaRows
import Derived.Test.YtdcmjbaahcipoaaLlg
import Derived.Test.YtdcmjbaahcipoaaOrd
import Derived.WalkKit
import Derived.ProofKit
import Derived.OpenShut
import Derived.ShutString
import Derived.ChangeOld
import Derived.Below
import Derived.SizedLaws
import Derived.Carry
namespace Go.Proofs.Ytdcmjbaahcipoaa.fnExactLetGo
open Go Go.AW Go.ChangeShapes Go.WideShapes Go.ChangeAt Go.RowKit
open Go.ChangeMaps (open_string shut_string)
set_option linter.unusedVariables false
set_option linter.unusedSimpArgs false
theorem own : ownKnob Try.prog.godebug = none := by kernel_rfl
theorem laidOut : laidOutB Try.prog = true := by kernel_rfl
theorem dec22 : Dec Try.prog 22 1 i16 (fun n => (Lit.int .i16 n).wf = true) := dec_int Try.underlying22 (by kernel_rfl)
theorem dec52 : Dec Try.prog 52 1 i8 (fun n => (Lit.int .i8 n).wf = true) := dec_int Try.underlying52 (by kernel_rfl)
theorem dec56 : Dec Try.prog 56 2 hold (fun x => (Lit.int .i16 x.who).wf = true ∧ (Lit.int .i8 x.knot).wf = true) := dec_struct2 (mk := Hold.mk) Try.underlying56 dec22 dec52 (by kernel_rfl) rfl rfl (fun _ _ => rfl) (fun c => ⟨c.1, c.2, rfl⟩) (fun _ _ x y => ⟨x, y⟩)
set_option maxHeartbeats 8000000 in
set_option maxRecDepth 100000 in
theorem lifted (os : Os) (started : os.Started) (H : Type) (enc : TypeId × Value → H) :
    ReturnsInHanded {} Try.checked os 4 .any (Rows.fnExactLetGoSpec.pre6 enc Try.prog Try.f4 Rows.fnExactLetGoRow.domain false) (Rows.fnExactLetGoSpec.post enc Try.prog Try.f4 false true false false) := by
  refine returnsInHanded_of_change_sized (C := Try.checked) own started (by kernel_rfl) Try.func4
    (ChangeSpec.witness6 (enc := enc) (C := Try.checked) false ⟨#[], #[.agg #[.int .i16 0, .slice none 0 0], .slice none 0 0, .int .i64 0], []⟩ 8 (by kernel_rfl) (by kernel_rfl) (by kernel_rfl) (by kernel_rfl)) ?_
  intro W base args ds gs before hval0 hW hcnd hsz0 _
  have hval : ∀ (j : Nat) t v, Try.f4.params[j]? = some t → args[j]? = some v → Value.okWide Try.prog W .any base t v := hval0
  have hW' := hW
  obtain ⟨p, q, hA0, hV, rfl, hfz, hnd⟩ := hW
  have hA : DataW.TrodAll enc Try.prog W 0 (fun _ => true) true Try.f4.params.toList args.toList ds p := hA0
  rw [Try.params4] at hA hval
  obtain ⟨v0, vs0, d0, ds0, p0, q0, hargs, rfl, rfl, h0, r0⟩ := trodAll_cons hA
  obtain ⟨v1, vs1, d1, ds1, p1, q1, rfl, rfl, rfl, h1, r1⟩ := trodAll_cons r0
  obtain ⟨v2, vs2, d2, ds2, p2, q2, rfl, rfl, rfl, h2, r2⟩ := trodAll_cons r1
  obtain ⟨rfl, rfl, rfl⟩ := trodAll_nil r2
  obtain rfl : args = #[v0, v1, v2] := by cases args; simp_all
  obtain ⟨rfl, rfl⟩ := trodVars_none hV
  have E0 := Emb.start W
  have t0 := h0
  have lt0 : ∀ x ∈ p0, x.block < W.heap.size := by obtain ⟨m, hm⟩ := t0; exact DataW.trod_lt m _ _ _ hm
  obtain ⟨L0, sv0, rfl, w0, β0, H0, u0, l0, E1, s0, le0, x0, V0, S0, n0, k0⟩ := Emb.argIS dec22 Try.underlying25 Try.underlying22 (by kernel_rfl) Try.underlying23 (by kernel_rfl) rfl rfl (by kernel_rfl) (by kernel_rfl) (by decide) (hval 0 25 v0 rfl rfl) h0 E0
  have t1 := h1
  have lt1 : ∀ x ∈ p1, x.block < W.heap.size := by obtain ⟨m, hm⟩ := t1; exact DataW.trod_lt m _ _ _ hm
  obtain ⟨β1, H1, u1, l1, E2, s1, le1, x1, V1, S1, n1, k1⟩ := Emb.argSlice dec56 Try.underlying34 (by decide) (hval 1 34 v1 rfl rfl) h1 E1
  replace S0 := S0.mono s1
  replace V0 := V0.mono x1
  obtain ⟨a2, rfl, rfl, rfl, w2⟩ := open_int Try.underlying2 (hval 2 2 v2 rfl rfl) h2
  clear hA0 hval0 hsz0
  have hc := lawLetGo_c (L := L0) (m := a2) S0 S1 n0 n1 (wf_i16 w0) (fun x hx => ⟨wf_i16 (k1 x hx).1, wf_i8 (k1 x hx).2⟩)
  have hk := Emb.calls (args' := #[.agg #[.int .i16 L0, sv0], v1, .int .i64 a2]) E2 (by rfl) (vrs3 V0 V1 (.int _ _)) hc
  refine hk.mono ?_
  rintro e W' ⟨he, bel⟩
  subst he
  exact ⟨_, rfl, _, _, _, [], _, [], hW', trodAll_mk1 (shut_bool Try.underlying4 _), (trodAll_cons_mk (Below.trod laidOut (by kernel_rfl) (of_decide_eq_true (by kernel_rfl)) t0 bel lt0) (trodAll_cons_mk (Below.trod laidOut (by kernel_rfl) (of_decide_eq_true (by kernel_rfl)) t1 bel lt1) (trodAll_cons_mk (shut_int Try.underlying2 w2) trodAll_mk0))), rfl, bel.frame _, fun h => by cases h⟩
set_option maxRecDepth 100000 in
theorem words : ∃ r, behindMainWord (wordsSigns Try.pinned.checked.prog.initOrder.toList) = "cut".toList :: r := words_of ⟨_, rfl, by kernel_rfl⟩
theorem closed : joinedFacts Try.pinned.checked.prog 4 Try.f4 Rows.fnExactLetGoSpec Rows.fnExactLetGoRow = true := by
  unfold joinedFacts
  rw [enter_of words (by kernel_rfl) (by kernel_rfl) (by kernel_rfl), lifts_of words, make_of words]
  kernel_rfl
theorem over : Rows.fnExactLetGoRow.holds Try.pinned (OpenSpec.ofChange Rows.fnExactLetGoSpec) :=
  OpenClaim.holds_of_wide 4 Try.f4 rfl rfl rfl rfl rfl rfl rfl ⟨rfl, rfl, rfl, rfl, rfl⟩ rfl rfl rfl rfl rfl (by kernel_rfl) Try.func4 closed
    (of_decide_eq_true (by kernel_rfl)) (by unfold Func.isWrapper; first | (rw [if_pos (by decide +kernel)]; kernel_rfl) | (rw [if_neg (by decide +kernel)]; exact ⟨rfl, rfl⟩))
    (fun os started H enc _ => lifted os started H enc)
theorem proved : Rows.FnExactLetGoSaid := over
end Go.Proofs.Ytdcmjbaahcipoaa.fnExactLetGo
namespace Go.Proofs.Ytdcmjbaahcipoaa
/-- The row, under a short name, for the claim. -/
theorem fnExactLetGo_holds : Rows.FnExactLetGoSaid := fnExactLetGo.proved
end Go.Proofs.Ytdcmjbaahcipoaa
