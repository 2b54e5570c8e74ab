/- Contracts of the program's functions over abstract heaps. -/
import Derived.Test.YtmmmjdbknepjgaaDoorGb
import Derived.Test.YtmmmjdbknepjgaaDoorShelf
import Derived.Test.YtmmmjdbknepjgaaDoorTab
namespace Go.Proofs.YtmmmjdbknepjgaaDoor
open Go Go.AW Go.Proofs
set_option linter.unusedVariables false
set_option linter.unusedSimpArgs false
set_option maxRecDepth 100000
set_option maxHeartbeats 2000000

theorem vrl_str (l : List ByteArray) (β : Bt) : VRL β (l.map Value.string) (l.map Value.string) := ⟨rfl, fun i u v hu hv => by
  rw [hu] at hv; cases hv
  rw [List.getElem?_map] at hu
  cases h : l[i]? with
  | none => rw [h] at hu; cases hu
  | some x => rw [h] at hu; cases hu; exact .string x⟩
theorem genSplit_c {s : ByteArray} {c : UInt8} {H : AHeap} (hs : s.size < 4294967281) :
    ACd Tryd.prog 64 [.string s, .string ⟨#[c]⟩, .int .i64 0, .int .i64 (-1)] H (.slice (some ⟨H.next, 0, none⟩) (pcs c s).length ((pcs c s).length + 1)) (H.push (.cells (fl str1 (pcs c s)) 1)) := by
  have h1 : 1 ≤ (⟨#[c]⟩ : ByteArray).size := Nat.le_refl 1
  have hle := Lib.countB_le ⟨#[c]⟩ h1 s.size s (Nat.le_refl _)
  have hlen := Lib.splitB_all ⟨#[c]⟩ h1 0 _ s rfl
  rw [← countB_pcs, fl_str1, ← splitB_pcs]
  refine acd_new (ty := 9) (fun v hv => ?_) (vrl_str _) (by rw [List.length_map, hlen]) fun w => ?_
  · simp only [List.mem_cons, List.not_mem_nil, or_false] at hv
    rcases hv with rfl | rfl | rfl | rfl
    · exact id_string _
    · exact id_string _
    · exact id_int _ _
    · exact id_int _ _
  · have k := Any.strings_genSplit_core Tryd.lays221 (by kernel_rfl) s ⟨#[c]⟩ 0 (-1) (Lib.countB s ⟨#[c]⟩ + 1) w hs h1 (Nat.zero_le _)
      (fun x cc hx => (Any.strings_Index_one Tryd.lays143 x c _).mono fun e w' ⟨he, hw⟩ => ⟨by rw [he]; show _ = Ending.returned (Value.int .i64 (Lib.index x.data.toList [c])); rw [Lib.index_one], hw⟩)
      ((Any.strings_Count_one Tryd.lays138 s c w).mono fun e w' ⟨he, hw⟩ => ⟨by rw [he]; show _ = Ending.returned (Value.int .i64 ((Lib.count s.data.toList [c] : Nat) : Int)); rw [Lib.count_one]; rfl, hw⟩) (by decide) (by decide) (by rw [if_pos (by decide)]; omega)
    rw [Nat.add_sub_cancel, hlen] at k
    rw [show Lib.cellsOf (Lib.splitB ⟨#[c]⟩ 0 (Lib.countB s ⟨#[c]⟩) s) (Lib.countB s ⟨#[c]⟩ + 1) = ((Lib.splitB ⟨#[c]⟩ 0 (Lib.countB s ⟨#[c]⟩) s).map Value.string).toArray by rw [← hlen]; exact Lib.cellsOf_full _] at k
    exact k

end Go.Proofs.YtmmmjdbknepjgaaDoor
