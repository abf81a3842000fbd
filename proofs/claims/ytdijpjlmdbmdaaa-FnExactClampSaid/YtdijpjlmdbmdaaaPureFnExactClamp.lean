/- The pure statement of the law FnExactClamp: its function answers true for all arguments within the row's bounds; no further condition. -/
import Derived.Test.YtdijpjlmdbmdaaaPFnExactClampx1
namespace Go.Proofs.Ytdijpjlmdbmdaaa.Pure
open Go.RowKit Go.Proofs.Ytdijpjlmdbmdaaa.PFnExactClamp Go.Proofs.YtdijpjlmdbmdaaaW.PrintWords Go.Proofs.YtdijpjlmdbmdaaaW.PrintLast
set_option linter.unusedVariables false

theorem FnExactClamp : laws_FnExactClamp.Pure := by
  intro a0 a1 a2 _ _ _
  refine ⟨1, ?_⟩
  unfold laws_FnExactClamp.f spec_Clamp.f impl_Clamp.f
  simp only [spec_Clamp.j0, mn]
  by_cases h1 : a2 < a1
  · simp [h1]
  · by_cases h2 : a0 < a1
    · simp [h1, h2]
    · by_cases h3 : a2 < a0
      · simp [h1, h2, h3]
      · simp [h1, h2, h3]

end Go.Proofs.Ytdijpjlmdbmdaaa.Pure
