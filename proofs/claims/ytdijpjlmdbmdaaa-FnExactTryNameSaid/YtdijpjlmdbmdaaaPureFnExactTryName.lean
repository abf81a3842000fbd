/- The pure statement of the law FnExactTryName: its function answers true for all arguments within the row's bounds; no further condition. -/
import Derived.Test.YtdijpjlmdbmdaaaPFnExactTryNamex1
namespace Go.Proofs.Ytdijpjlmdbmdaaa.Pure
open Go.RowKit Go.Proofs.Ytdijpjlmdbmdaaa.PFnExactTryName Go.Proofs.YtdijpjlmdbmdaaaW.PrintWords Go.Proofs.YtdijpjlmdbmdaaaW.PrintLast
set_option linter.unusedVariables false

theorem try_some (a0 : Int) : ∃ r, impl_TryName.f a0 = some r := by
  unfold impl_TryName.f impl_within.f
  by_cases h0 : a0 ≥ 0
  · by_cases h4 : a0 ≤ 4
    · have h5 : a0 < 5 := by omega
      simp [h0, h4, h5]
    · simp [h0, h4]
  · simp [h0]

theorem FnExactTryName : laws_FnExactTryName.Pure := by
  intro a0 _
  have e : spec_TryName.f a0 = impl_TryName.f a0 := rfl
  obtain ⟨r, hr⟩ := try_some a0
  unfold laws_FnExactTryName.f
  rw [e, hr]
  simp

end Go.Proofs.Ytdijpjlmdbmdaaa.Pure
