/- The pure statement of the law FnExactNewLock: its function answers true for all arguments within the row's bounds; no further condition. -/
import Derived.Test.YtdijpjlmdbmdaaaPFnExactNewLockx1
namespace Go.Proofs.Ytdijpjlmdbmdaaa.Pure
open Go.RowKit Go.Proofs.Ytdijpjlmdbmdaaa.PFnExactNewLock Go.Proofs.YtdijpjlmdbmdaaaW.PrintWords Go.Proofs.YtdijpjlmdbmdaaaW.PrintLast
set_option linter.unusedVariables false

theorem FnExactNewLock : laws_FnExactNewLock.Pure := by
  intro a0 _
  unfold laws_FnExactNewLock.f spec_NewLock.f impl_NewLock.f spec_l03Secret.f impl_LockOk.f impl_secretOk.f impl_within.f spec_l01In.f laws_eqLock.f
  by_cases h0 : a0 ≥ 1
  · by_cases h4 : a0 ≤ 2147483646
    · simp [h0, h4]
    · simp [h0, h4]
  · simp [h0]

end Go.Proofs.Ytdijpjlmdbmdaaa.Pure
