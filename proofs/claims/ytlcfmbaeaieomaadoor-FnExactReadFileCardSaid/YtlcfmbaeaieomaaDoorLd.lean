/- What the row lists of package-level variables, as the walks know it. -/
import Derived.Test.YtlcfmbaeaieomaaDoorRows
import Derived.Test.YtlcfmbaeaieomaaDoorCore
import Derived.Lib.LaidTab
import Derived.Lib.ItoaNum
import Derived.Stop.LaidErr
import Derived.LaidMore
import Derived.MakeChecks
import Derived.KernelRfl
namespace Go.Proofs.YtlcfmbaeaieomaaDoor
open Go Go.AW Go.RowKit
set_option maxRecDepth 100000
theorem var_heap {P : Program} {W : World} {name : String} {g : Nat} {cs : Array Value} (hg : P.globalNamed name = some g) (h : W.var? P name = some cs) : ∃ ty fz, W.heap[g]? = some (.cells cs ty fz) := by
  unfold World.var? at h
  rw [hg, Option.bind_some] at h
  cases e : W.heap[g]? with
  | none => rw [e] at h; cases h
  | some o =>
    rw [e] at h
    cases o with
    | cells c ty fz => cases h; exact ⟨ty, fz, rfl⟩
    | _ => cases h
theorem row104 (u : TypeId) (h : Tryd.prog.typeName? 3 u = some "*errors.errorString") : u = 104 :=
  have star : "*" ++ "errors.errorString" = "*errors.errorString" := by decide
  typeName_ptr_named (nm := "errors.errorString") (by rw [star]; kernel_rfl) (by kernel_rfl) (by decide) u (by rw [star]; exact h)
theorem globs_of_laid {W : World} (hL : laidMetH Tryd.prog Rows.fnExactReadFileRow.laid W) : ∀ g ∈ globs, globAt g W.heap[g]? := by
  rw [MakeChecks.laidMetH_plain _ _ _ (by kernel_rfl)] at hL
  have h0 : laidMet Tryd.prog (("math/bits.deBruijn32tab", Rows.laid_math_bits_deBruijn32tab) :: ("math/bits.deBruijn64tab", Rows.laid_math_bits_deBruijn64tab) :: ("internal/strconv.uint64pow10", Rows.laid_internal_strconv_uint64pow10) :: ("strconv.ErrRange", Rows.laid_strconv_ErrRange) :: [("strconv.ErrSyntax", Rows.laid_strconv_ErrSyntax)]) W := hL
  have h2 := h0.tail.tail
  have ht : Lib.TabIs Tryd.prog W "internal/strconv.uint64pow10" .u64 Lib.pow10Tab := Lib.tabIs_of_head (g := 1) (t := 90) (e := 76) (n := 20) (by kernel_rfl) (by kernel_rfl) Tryd.underlying90 Tryd.underlying76 (by kernel_rfl) (by kernel_rfl) h2
  obtain ⟨a1, _, hr, _⟩ := laid_sentinel h2.tail (g := 3) (ti := 67) (by kernel_rfl) (by kernel_rfl) Tryd.underlying67 row104 Tryd.underlying104 Tryd.underlying106 rfl rfl Tryd.underlying9 (by kernel_rfl) (by kernel_rfl)
  obtain ⟨a2, _, hs, _⟩ := laid_sentinel h2.tail.tail (g := 2) (ti := 67) (by kernel_rfl) (by kernel_rfl) Tryd.underlying67 row104 Tryd.underlying104 Tryd.underlying106 rfl rfl Tryd.underlying9 (by kernel_rfl) (by kernel_rfl)
  intro g hg
  simp only [globs, List.mem_cons, List.not_mem_nil, or_false] at hg
  rcases hg with rfl | rfl | rfl
  · obtain ⟨ty, fz, e⟩ := var_heap (g := 1) (by kernel_rfl) ht
    refine ⟨_, ty, fz, e, fun _ => ?_, fun q => by omega⟩
    unfold Lib.pow10Tab; rw [List.map_map]; rfl
  · obtain ⟨ty, fz, e⟩ := var_heap (g := 2) (by kernel_rfl) hs
    exact ⟨_, ty, fz, e, fun q => by omega, fun _ => ⟨_, _, rfl⟩⟩
  · obtain ⟨ty, fz, e⟩ := var_heap (g := 3) (by kernel_rfl) hr
    exact ⟨_, ty, fz, e, fun q => by omega, fun _ => ⟨_, _, rfl⟩⟩
end Go.Proofs.YtlcfmbaeaieomaaDoor
