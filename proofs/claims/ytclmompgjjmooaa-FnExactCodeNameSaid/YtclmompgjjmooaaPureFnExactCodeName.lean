/- The law FnExactCodeName of the folder, read as a plain function of its number, answers true for every number of its kind. -/
import Derived.Test.YtclmompgjjmooaaPFnExactCodeNamex1
namespace Go.Proofs.Ytclmompgjjmooaa.Pure
open Go Go.RowKit Go.Proofs.Ytclmompgjjmooaa.PFnExactCodeName Go.Proofs.YtclmompgjjmooaaW.PrintWords Go.Proofs.YtclmompgjjmooaaW.PrintLast

theorem FnExactCodeName : laws_FnExactCodeName.Pure := by
  intro a _
  have e : wrap64 8 = 8 := by unfold wrap64; decide
  by_cases h : 0 ≤ a
  · by_cases h8 : a ≤ 8
    · have h9 : a < 9 := by omega
      simp [laws_FnExactCodeName.f, spec_CodeName.f, impl_CodeName.f, impl_size_string.f, impl_within.f, spec_l00In.f, h, h8, h9, e]
    · simp [laws_FnExactCodeName.f, spec_CodeName.f, impl_CodeName.f, impl_size_string.f, impl_within.f, spec_l00In.f, h, h8, e]
  · simp [laws_FnExactCodeName.f, spec_CodeName.f, impl_CodeName.f, impl_size_string.f, impl_within.f, spec_l00In.f, h]

end Go.Proofs.Ytclmompgjjmooaa.Pure
