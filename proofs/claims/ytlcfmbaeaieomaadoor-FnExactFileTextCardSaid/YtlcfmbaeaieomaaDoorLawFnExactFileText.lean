/- The law FnExactFileText of the folder answers true for all its arguments. -/
import Derived.Test.YtlcfmbaeaieomaaDoorRows
import Derived.Test.YtlcfmbaeaieomaaDoorFu
import Derived.Test.YtlcfmbaeaieomaaDoorOrd
import Derived.WalkKit
import Derived.ProofKit
import Derived.OpenShut
import Derived.ShutString
import Derived.ChangeOld
import Derived.Below
import Derived.SizedLaws
import Derived.Carry
import Derived.LaidMore
import Derived.Lay
import Derived.SevenTiedAt
import Derived.Stop.Joined
import Derived.Test.YtlcfmbaeaieomaaDoorTie
import Derived.Test.YtlcfmbaeaieomaaDoorCards
namespace Go.Proofs.YtlcfmbaeaieomaaDoor.fnExactFileText
open Go Go.AW Go.ChangeShapes Go.WideShapes Go.ChangeAt Go.RowKit
open Go.ChangeMaps (open_string shut_string)
set_option linter.unusedVariables false
set_option linter.unusedSimpArgs false
theorem own : ownKnob Tryd.prog.godebug = none := by kernel_rfl
theorem laidOut : laidOutB Tryd.prog = true := by kernel_rfl
theorem dec35 : Dec Tryd.prog 35 1 i8 (fun n => (Lit.int .i8 n).wf = true) := dec_int Tryd.underlying35 (by kernel_rfl)
theorem dec39 : Dec Tryd.prog 39 2 spot (fun x => (Lit.int .i8 x.x).wf = true ∧ (Lit.int .i8 x.y).wf = true) := dec_struct2 (mk := Spot.mk) Tryd.underlying39 dec35 dec35 (by kernel_rfl) rfl rfl (fun _ _ => rfl) (fun c => ⟨c.1, c.2, rfl⟩) (fun _ _ x y => ⟨x, y⟩)
set_option maxHeartbeats 8000000 in
set_option maxRecDepth 100000 in
theorem lifted (os : Os) (started : os.Started) (H : Type) (enc : TypeId × Value → H) :
    ReturnsInHanded {} Tryd.checked os 3 .any (fun w args => (Rows.fnExactFileTextSpec.pre enc Tryd.prog Tryd.f3 Rows.fnExactFileTextRow.domain false w args ∧ laidMetH Tryd.prog Rows.fnExactFileTextRow.laid w) ∧ sizedMet enc Tryd.prog Tryd.f3 (OpenSpec.ofChange Rows.fnExactFileTextSpec) false w args) (Rows.fnExactFileTextSpec.post enc Tryd.prog Tryd.f3 false true false false) := by
  refine returnsInHanded_of_change_and (C := Tryd.checked) (X := fun w _ => laidMetH Tryd.prog Rows.fnExactFileTextRow.laid w) (fun _ _ _ hh h => h.of_heap hh) own started (by kernel_rfl) Tryd.func3
    (ChangeSpec.witness_shaped (enc := enc) (C := Tryd.checked) (os := os) (X := fun w _ => laidMetH Tryd.prog Rows.fnExactFileTextRow.laid w) false (World.laidAll Tryd.prog os Rows.fnExactFileTextRow.laid) #[.slice none 0 0] 8 (World.laidAll_os _ _ _)
      (World.shaped_of_ZipB (by kernel_rfl) (by kernel_rfl)) (by kernel_rfl) (by kernel_rfl) (by kernel_rfl)
      (by rw [MakeChecks.laidMetH_plain _ _ _ (by kernel_rfl)]; exact laidMet_laidAll _ (by kernel_rfl) (by kernel_rfl))) ?_
  intro W base args ds gs before hval0 hW hcnd hsz0 hL _
  have hval : ∀ (j : Nat) t v, Tryd.f3.params[j]? = some t → args[j]? = some v → Value.okWide Tryd.prog W .any base t v := hval0
  have hW' := hW
  obtain ⟨p, q, hA0, hV, rfl, hfz, hnd⟩ := hW
  have hA : DataW.TrodAll enc Tryd.prog W 0 (fun _ => true) true Tryd.f3.params.toList args.toList ds p := hA0
  rw [Tryd.params3] at hA hval
  obtain ⟨v0, vs0, d0, ds0, p0, q0, hargs, rfl, rfl, h0, r0⟩ := trodAll_cons hA
  obtain ⟨rfl, rfl, rfl⟩ := trodAll_nil r0
  obtain rfl : args = #[v0] := by cases args; simp_all
  obtain ⟨rfl, rfl⟩ := trodVars_none hV
  have E0 := Emb.start W
  have t0 := h0
  have lt0 : ∀ x ∈ p0, x.block < W.heap.size := by obtain ⟨m, hm⟩ := t0; exact DataW.trod_lt m _ _ _ hm
  obtain ⟨β0, H0, u0, l0, E1, s0, le0, x0, V0, S0, n0, k0⟩ := Emb.argSlice dec39 Tryd.underlying22 (by decide) (hval 0 22 v0 rfl rfl) h0 E0
  clear hA0 hval0 hsz0
  have hc := lawFt_c S0 n0 (fun i x h => ⟨wf_i8 (k0 x (List.mem_of_getElem? h)).1, wf_i8 (k0 x (List.mem_of_getElem? h)).2⟩)
  have hk := Emb.calls (args' := #[v0]) E1 (by rfl) (vrs1 V0) hc
  refine hk.mono ?_
  rintro e W' ⟨he, bel⟩
  subst he
  exact ⟨_, rfl, _, _, _, [], _, [], hW', trodAll_mk1 (shut_bool Tryd.underlying4 _), (trodAll_cons_mk (Below.trod laidOut (by kernel_rfl) (of_decide_eq_true (by kernel_rfl)) t0 bel lt0) trodAll_mk0), rfl, bel.frame _, fun h => by cases h⟩
set_option maxRecDepth 100000 in
theorem words : ∃ r, behindMainWord (wordsSigns Tryd.pinned.checked.prog.initOrder.toList) = "cut".toList :: r := words_of ⟨_, rfl, by kernel_rfl⟩
theorem closed : joinedFacts Tryd.pinned.checked.prog 3 Tryd.f3 Rows.fnExactFileTextSpec Rows.fnExactFileTextRow = true := by
  unfold joinedFacts
  rw [enter_of words (by kernel_rfl) (by kernel_rfl) (by kernel_rfl), lifts_of words, make_of words]
  kernel_rfl
theorem over : Rows.fnExactFileTextRow.holds Tryd.pinned (OpenSpec.ofChange Rows.fnExactFileTextSpec) :=
  OpenClaim.holds_of_wide 3 Tryd.f3 rfl rfl rfl rfl rfl rfl rfl ⟨rfl, rfl, rfl, rfl, rfl⟩ rfl rfl rfl rfl rfl (by kernel_rfl) Tryd.func3 closed
    (of_decide_eq_true (by kernel_rfl)) (by unfold Func.isWrapper; first | (rw [if_pos (by decide +kernel)]; kernel_rfl) | (rw [if_neg (by decide +kernel)]; exact ⟨rfl, rfl⟩))
    (fun os started H enc _ => lifted os started H enc)
theorem proved : Rows.FnExactFileTextSaid := over
theorem card : Rows.FnExactFileTextCardSaid :=
  Claim7.holds_tied_plain_at .later [] [.data, .data, .data] true (true, "5e995efb7ebff4b91a8a69252096d8977335cd178bfa59ee7922ca636e1c47ee") true proved (fun _ h => by cases h) (by kernel_rfl) (fun _ h => by cases h) fnExactFileText_row_tie rfl ⟨rfl, rfl⟩ (by kernel_rfl) rfl
    (fun f fn hf hfn => by
      obtain rfl : f = 3 := Option.some.inj ((show Tryd.prog.funcNamed "loop.example/g01361/laws.FnExactFileText" = some 3 by kernel_rfl).symm.trans hf) |>.symm
      obtain rfl : fn = Tryd.f3 := (Option.some.inj (Tryd.func3.symm.trans hfn)).symm
      exact ⟨by kernel_rfl, fun j t ht => by
        rw [Tryd.params3] at ht
        have hm : t ∈ [22] := by simpa using Array.mem_of_getElem? ht
        have hall : ([22].all fun u => !Tryd.prog.wantsStandIn u) = true := by kernel_rfl
        exact (show Tryd.prog.wantsStandIn t = false by simpa using List.all_eq_true.1 hall t hm)⟩)
    (by kernel_rfl)
end Go.Proofs.YtlcfmbaeaieomaaDoor.fnExactFileText
namespace Go.Proofs.YtlcfmbaeaieomaaDoor
/-- The row, under a short name, for the claim. -/
theorem fnExactFileText_holds : Rows.FnExactFileTextCardSaid := fnExactFileText.card
end Go.Proofs.YtlcfmbaeaieomaaDoor
