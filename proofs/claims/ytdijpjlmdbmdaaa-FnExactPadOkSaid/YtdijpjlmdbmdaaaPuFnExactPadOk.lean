/- The pure statement of the law FnExactPadOk: its function answers true for all arguments that can be read; no further condition. -/
import Derived.Test.YtdijpjlmdbmdaaaAx1
import Derived.Test.YtdijpjlmdbmdaaaOp
namespace Go.Proofs.Ytdijpjlmdbmdaaa.A
open Go.RowKit Go.Proofs.YtdijpjlmdbmdaaaW.PrintWords Go.Proofs.YtdijpjlmdbmdaaaW.PrintLast Go.Proofs.YtdijpjlmdbmdaaaW.PrintMore
set_option linter.unusedVariables false
set_option linter.unusedSimpArgs false

theorem within_eq (a b c : Int) : impl_within.f a b c = some (decide (b ≤ a ∧ a ≤ c)) := by
  unfold impl_within.f
  split
  · congr 1; rw [decide_eq_decide]; omega
  · congr 1; exact (decide_eq_false (by omega)).symm
theorem in_eq (a b c : Int) : spec_l01In.f a b c = some (decide (b ≤ a ∧ a ≤ c)) := by
  unfold spec_l01In.f
  split
  · congr 1; rw [decide_eq_decide]; omega
  · congr 1; exact (decide_eq_false (by omega)).symm

abbrev PadP (a b : Int) : Prop := 1 ≤ a ∧ a ≤ 2147483646 ∧ 0 ≤ b ∧ b ≤ 1000001
theorem padok_eq (a b : Int) : impl_PadOk.f a b = some (decide (PadP a b)) := by
  unfold impl_PadOk.f impl_secretOk.f
  simp only [within_eq, Option.bind_some, decide_eq_true_eq]
  split
  · congr 1; rw [decide_eq_decide]; omega
  · congr 1; exact (decide_eq_false (by omega)).symm
theorem padok_spec (a b : Int) : spec_PadOk.f a b = some (decide (PadP a b)) := by
  rw [← padok_eq]; rfl

theorem pureFnExactPadOk : ∀ (a0 : S24), ok24 a0 → laws_FnExactPadOk.f a0.f0 a0.f1 = some true := by
  intro a0 _
  unfold laws_FnExactPadOk.f laws_toPad.f
  simp [padok_eq, padok_spec]

end Go.Proofs.Ytdijpjlmdbmdaaa.A
