/- The pure statement of the law FnExactLockOk: its function answers true for all arguments that can be read; no further condition. -/
import Derived.Test.YtdijpjlmdbmdaaaAx2
import Derived.Test.YtdijpjlmdbmdaaaOp
namespace Go.Proofs.Ytdijpjlmdbmdaaa.A
open Go.RowKit Go.Proofs.YtdijpjlmdbmdaaaW.PrintWords Go.Proofs.YtdijpjlmdbmdaaaW.PrintLast Go.Proofs.YtdijpjlmdbmdaaaW.PrintMore
set_option linter.unusedVariables false
set_option linter.unusedSimpArgs false

theorem within_eq (a b c : Int) : impl_within.f a b c = some (decide (b ≤ a ∧ a ≤ c)) := by
  unfold impl_within.f
  split
  · congr 1; rw [decide_eq_decide]; omega
  · congr 1; exact (decide_eq_false (by omega)).symm
theorem in_eq (a b c : Int) : spec_l01In.f a b c = some (decide (b ≤ a ∧ a ≤ c)) := by
  unfold spec_l01In.f
  split
  · congr 1; rw [decide_eq_decide]; omega
  · congr 1; exact (decide_eq_false (by omega)).symm

abbrev LockP (a b c d e : Int) : Prop := 1 ≤ a ∧ a ≤ 2147483646 ∧ 0 ≤ b ∧ b ≤ 1000001 ∧ 0 ≤ c ∧ c ≤ 2 ∧ 0 ≤ d ∧ d ≤ 6 ∧ 0 ≤ e ∧ e ≤ 20064
theorem lockok_eq (a b c d e : Int) : impl_LockOk.f a b c d e = some (decide (LockP a b c d e)) := by
  unfold impl_LockOk.f impl_secretOk.f
  simp only [within_eq, Option.bind_some, decide_eq_true_eq]
  repeat' split
  all_goals first
    | (congr 1; rw [decide_eq_decide]; omega)
    | (congr 1; exact (decide_eq_false (by omega)).symm)
theorem lockok_spec (a b c d e : Int) : spec_LockOk.f a b c d e = some (decide (LockP a b c d e)) := by
  rw [← lockok_eq]; rfl

theorem pureFnExactLockOk : ∀ (a0 : S34), ok34 a0 → laws_FnExactLockOk.f a0.f0 a0.f1 a0.f2 a0.f3 a0.f4 = some true := by
  intro a0 _
  unfold laws_FnExactLockOk.f laws_toLock.f
  simp [lockok_eq, lockok_spec]

end Go.Proofs.Ytdijpjlmdbmdaaa.A
