/- The law FnRooms of the folder answers true for all its arguments. -/
import Derived.Test.YtmmmjdbknepjgaaDoorRows
import Derived.Test.YtmmmjdbknepjgaaDoorLro
import Derived.Test.YtmmmjdbknepjgaaDoorGb
import Derived.WalkKit
import Derived.ProofKit
import Derived.OpenShut
import Derived.ShutString
import Derived.ChangeOld
import Derived.Below
import Derived.SizedLaws
import Derived.Carry
import Derived.LaidMore
import Derived.Lay
import Derived.SevenTiedAt
import Derived.Stop.Joined
import Derived.Test.YtmmmjdbknepjgaaDoorTie
import Derived.Test.YtmmmjdbknepjgaaDoorCards
namespace Go.Proofs.YtmmmjdbknepjgaaDoor.fnRooms
open Go Go.AW Go.ChangeShapes Go.WideShapes Go.ChangeAt Go.RowKit
open Go.ChangeMaps (open_string shut_string)
set_option linter.unusedVariables false
set_option linter.unusedSimpArgs false
theorem own : ownKnob Tryd.prog.godebug = none := by kernel_rfl
theorem laidOut : laidOutB Tryd.prog = true := by kernel_rfl
theorem dec5 : Dec Tryd.prog 5 1 u8 (fun n => (Lit.int .u8 n).wf = true) := dec_int Tryd.underlying5 (by kernel_rfl)
set_option maxHeartbeats 8000000 in
set_option maxRecDepth 100000 in
theorem lifted (os : Os) (started : os.Started) (H : Type) (enc : TypeId × Value → H) :
    ReturnsInHanded {} Tryd.checked os 3 .any (fun w args => (Rows.fnRoomsSpec.pre enc Tryd.prog Tryd.f3 Rows.fnRoomsRow.domain false w args ∧ laidMetH Tryd.prog Rows.fnRoomsRow.laid w) ∧ sizedMet enc Tryd.prog Tryd.f3 (OpenSpec.ofChange Rows.fnRoomsSpec) false w args) (Rows.fnRoomsSpec.post enc Tryd.prog Tryd.f3 false true false false) := by
  refine returnsInHanded_of_change_and (C := Tryd.checked) (X := fun w _ => laidMetH Tryd.prog Rows.fnRoomsRow.laid w) (fun _ _ _ hh h => h.of_heap hh) own started (by kernel_rfl) Tryd.func3
    (ChangeSpec.witness_shaped (enc := enc) (C := Tryd.checked) (os := os) (X := fun w _ => laidMetH Tryd.prog Rows.fnRoomsRow.laid w) false (World.laidAll Tryd.prog os Rows.fnRoomsRow.laid) #[.slice none 0 0, .slice none 0 0] 8 (World.laidAll_os _ _ _)
      (World.shaped_of_ZipB (by kernel_rfl) (by kernel_rfl)) (by kernel_rfl) (by kernel_rfl) (by kernel_rfl)
      (by rw [MakeChecks.laidMetH_plain _ _ _ (by kernel_rfl)]; exact laidMet_laidAll _ (by kernel_rfl) (by kernel_rfl))) ?_
  intro W base args ds gs before hval0 hW hcnd hsz0 hL _
  have hval : ∀ (j : Nat) t v, Tryd.f3.params[j]? = some t → args[j]? = some v → Value.okWide Tryd.prog W .any base t v := hval0
  have hW' := hW
  obtain ⟨p, q, hA0, hV, rfl, hfz, hnd⟩ := hW
  have hA : DataW.TrodAll enc Tryd.prog W 0 (fun _ => true) true Tryd.f3.params.toList args.toList ds p := hA0
  rw [Tryd.params3] at hA hval
  obtain ⟨v0, vs0, d0, ds0, p0, q0, hargs, rfl, rfl, h0, r0⟩ := trodAll_cons hA
  obtain ⟨v1, vs1, d1, ds1, p1, q1, rfl, rfl, rfl, h1, r1⟩ := trodAll_cons r0
  obtain ⟨rfl, rfl, rfl⟩ := trodAll_nil r1
  obtain rfl : args = #[v0, v1] := by cases args; simp_all
  obtain ⟨rfl, rfl⟩ := trodVars_none hV
  have E0 := Emb.start W
  have t0 := h0
  have lt0 : ∀ x ∈ p0, x.block < W.heap.size := by obtain ⟨m, hm⟩ := t0; exact DataW.trod_lt m _ _ _ hm
  obtain ⟨β0, H0, u0, l0, E1, s0, le0, x0, V0, S0, n0, k0⟩ := Emb.argSlice dec5 Tryd.underlying22 (by decide) (hval 0 22 v0 rfl rfl) h0 E0
  have t1 := h1
  have lt1 : ∀ x ∈ p1, x.block < W.heap.size := by obtain ⟨m, hm⟩ := t1; exact DataW.trod_lt m _ _ _ hm
  obtain ⟨β1, H1, u1, l1, E2, s1, le1, x1, V1, S1, n1, k1⟩ := Emb.argSlice dec5 Tryd.underlying22 (by decide) (hval 1 22 v1 rfl rfl) h1 E1
  replace S0 := S0.mono s1
  replace V0 := V0.mono x1
  clear hA0 hval0 hsz0
  have hc := lawRooms_c S0 S1 (fun x hx => u8_wf (k0 x hx))
  have hk := Emb.calls (args' := #[v0, v1]) E2 (by rfl) (vrs2 V0 V1) hc
  refine hk.mono ?_
  rintro e W' ⟨he, bel⟩
  subst he
  exact ⟨_, rfl, _, _, _, [], _, [], hW', trodAll_mk1 (shut_bool Tryd.underlying4 _), (trodAll_cons_mk (Below.trod laidOut (by kernel_rfl) (of_decide_eq_true (by kernel_rfl)) t0 bel lt0) (trodAll_cons_mk (Below.trod laidOut (by kernel_rfl) (of_decide_eq_true (by kernel_rfl)) t1 bel lt1) trodAll_mk0)), rfl, bel.frame _, fun h => by cases h⟩
set_option maxRecDepth 100000 in
theorem words : ∃ r, behindMainWord (wordsSigns Tryd.pinned.checked.prog.initOrder.toList) = "cut".toList :: r := words_of ⟨_, rfl, by kernel_rfl⟩
theorem closed : joinedFacts Tryd.pinned.checked.prog 3 Tryd.f3 Rows.fnRoomsSpec Rows.fnRoomsRow = true := by
  unfold joinedFacts
  rw [enter_of words (by kernel_rfl) (by kernel_rfl) (by kernel_rfl), lifts_of words, make_of words]
  kernel_rfl
theorem over : Rows.fnRoomsRow.holds Tryd.pinned (OpenSpec.ofChange Rows.fnRoomsSpec) :=
  OpenClaim.holds_of_wide 3 Tryd.f3 rfl rfl rfl rfl rfl rfl rfl ⟨rfl, rfl, rfl, rfl, rfl⟩ rfl rfl rfl rfl rfl (by kernel_rfl) Tryd.func3 closed
    (of_decide_eq_true (by kernel_rfl)) (by unfold Func.isWrapper; first | (rw [if_pos (by decide +kernel)]; kernel_rfl) | (rw [if_neg (by decide +kernel)]; exact ⟨rfl, rfl⟩))
    (fun os started H enc _ => lifted os started H enc)
theorem proved : Rows.FnRoomsSaid := over
theorem card : Rows.FnRoomsCardSaid :=
  Claim7.holds_tied_plain_at .later [] [.data, .pinned] true (true, "ccc43a40b8c6cebd67c8e4b80be1fe3b26c317dbe2ff1a2aaa9f2729c3337e73") false proved (fun _ h => by cases h) (by kernel_rfl) (fun _ h => by cases h) fnRooms_row_tie rfl ⟨rfl, rfl⟩ (by kernel_rfl) rfl
    (fun f fn hf hfn => by
      obtain rfl : f = 3 := Option.some.inj ((show Tryd.prog.funcNamed "loop.example/g01361/laws.FnRooms" = some 3 by kernel_rfl).symm.trans hf) |>.symm
      obtain rfl : fn = Tryd.f3 := (Option.some.inj (Tryd.func3.symm.trans hfn)).symm
      exact ⟨by kernel_rfl, fun j t ht => by
        rw [Tryd.params3] at ht
        have hm : t ∈ [22, 22] := by simpa using Array.mem_of_getElem? ht
        have hall : ([22, 22].all fun u => !Tryd.prog.wantsStandIn u) = true := by kernel_rfl
        exact (show Tryd.prog.wantsStandIn t = false by simpa using List.all_eq_true.1 hall t hm)⟩)
    (by kernel_rfl)
end Go.Proofs.YtmmmjdbknepjgaaDoor.fnRooms
namespace Go.Proofs.YtmmmjdbknepjgaaDoor
/-- The row, under a short name, for the claim. -/
theorem fnRooms_holds : Rows.FnRoomsCardSaid := fnRooms.card
end Go.Proofs.YtmmmjdbknepjgaaDoor
