/- The law FnExactReadMoves of the folder answers true for all its arguments. -/
import Derived.Test.YtokgcdacdmllbaaRows
import Derived.Test.YtokgcdacdmllbaaMr
import Derived.Test.YtokgcdacdmllbaaOrd
import Derived.WalkKit
import Derived.ProofKit
import Derived.OpenShut
import Derived.ShutString
import Derived.ChangeOld
import Derived.Below
import Derived.SizedLaws
import Derived.Carry
namespace Go.Proofs.Ytokgcdacdmllbaa.fnExactReadMoves
open Go Go.AW Go.ChangeShapes Go.WideShapes Go.ChangeAt Go.RowKit
open Go.ChangeMaps (open_string shut_string)
set_option linter.unusedVariables false
set_option linter.unusedSimpArgs false
theorem own : ownKnob Try.prog.godebug = none := by kernel_rfl
theorem laidOut : laidOutB Try.prog = true := by kernel_rfl
set_option maxHeartbeats 8000000 in
set_option maxRecDepth 100000 in
theorem lifted (os : Os) (started : os.Started) (H : Type) (enc : TypeId × Value → H) :
    ReturnsInHanded {} Try.checked os 5 .any (Rows.fnExactReadMovesSpec.pre6 enc Try.prog Try.f5 Rows.fnExactReadMovesRow.domain false) (Rows.fnExactReadMovesSpec.post enc Try.prog Try.f5 false true false false) := by
  refine returnsInHanded_of_change_sized (C := Try.checked) own started (by kernel_rfl) Try.func5
    (ChangeSpec.witness6 (enc := enc) (C := Try.checked) false ⟨#[], #[.string ByteArray.empty], []⟩ 8 (by kernel_rfl) (by kernel_rfl) (by kernel_rfl) (by kernel_rfl)) ?_
  intro W base args ds gs before hval0 hW hcnd hsz0 _
  have hval : ∀ (j : Nat) t v, Try.f5.params[j]? = some t → args[j]? = some v → Value.okWide Try.prog W .any base t v := hval0
  have hW' := hW
  obtain ⟨p, q, hA0, hV, rfl, hfz, hnd⟩ := hW
  have hA : DataW.TrodAll enc Try.prog W 0 (fun _ => true) true Try.f5.params.toList args.toList ds p := hA0
  rw [Try.params5] at hA hval
  obtain ⟨v0, vs0, d0, ds0, p0, q0, hargs, rfl, rfl, h0, r0⟩ := trodAll_cons hA
  obtain ⟨rfl, rfl, rfl⟩ := trodAll_nil r0
  obtain rfl : args = #[v0] := by cases args; simp_all
  obtain ⟨rfl, rfl⟩ := trodVars_none hV
  have E0 := Emb.start W
  obtain ⟨a0, rfl, rfl, rfl, w0⟩ := open_string Try.underlying9 (hval 0 9 v0 rfl rfl) h0
  clear hA0 hval0 hsz0
  have hc := lawRm_c (t := a0) (H := noH)
  have hk := Emb.calls (args' := #[.string a0]) E0 (by rfl) (vrs1 (.string _)) hc
  refine hk.mono ?_
  rintro e W' ⟨he, bel⟩
  subst he
  exact ⟨_, rfl, _, _, _, [], _, [], hW', trodAll_mk1 (shut_bool Try.underlying4 _), (trodAll_cons_mk (shut_string Try.underlying9 w0) trodAll_mk0), rfl, bel.frame _, fun h => by cases h⟩
set_option maxRecDepth 100000 in
theorem words : ∃ r, behindMainWord (wordsSigns Try.pinned.checked.prog.initOrder.toList) = "cut".toList :: r := words_of ⟨_, rfl, by kernel_rfl⟩
theorem closed : joinedFacts Try.pinned.checked.prog 5 Try.f5 Rows.fnExactReadMovesSpec Rows.fnExactReadMovesRow = true := by
  unfold joinedFacts
  rw [enter_of words (by kernel_rfl) (by kernel_rfl) (by kernel_rfl), lifts_of words, make_of words]
  kernel_rfl
theorem over : Rows.fnExactReadMovesRow.holds Try.pinned (OpenSpec.ofChange Rows.fnExactReadMovesSpec) :=
  OpenClaim.holds_of_wide 5 Try.f5 rfl rfl rfl rfl rfl rfl rfl ⟨rfl, rfl, rfl, rfl, rfl⟩ rfl rfl rfl rfl rfl (by kernel_rfl) Try.func5 closed
    (of_decide_eq_true (by kernel_rfl)) (by unfold Func.isWrapper; first | (rw [if_pos (by decide +kernel)]; kernel_rfl) | (rw [if_neg (by decide +kernel)]; exact ⟨rfl, rfl⟩))
    (fun os started H enc _ => lifted os started H enc)
theorem proved : Rows.FnExactReadMovesSaid := over
end Go.Proofs.Ytokgcdacdmllbaa.fnExactReadMoves
namespace Go.Proofs.Ytokgcdacdmllbaa
/-- The row, under a short name, for the claim. -/
theorem fnExactReadMoves_holds : Rows.FnExactReadMovesSaid := fnExactReadMoves.proved
end Go.Proofs.Ytokgcdacdmllbaa
